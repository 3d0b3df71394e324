/- For each Go function that the law reaches, a Lean function over plain values, and the rule of each of its loops; conditions: none. -/
import Derived.Test.YtdfpkmdnoncliaaPL
noncomputable section
set_option linter.unusedVariables false
namespace Go.Sh
open Go
/-! ### loop.example/g00910/laws.toInt64S -/
namespace laws_toInt64S
def s3 {R : Type} (k : Nat) (rec : (List Int) × Int × (List Int) → Option R) (kx0 : ((List Int) → Option R)) : (List Int) × Int × (List Int) → Option R := fun (x0, x4, y0) =>
  (bif (decide (x4 < ((x0.length : Nat) : Int))) then (bif ((decide (0 ≤ x4)) && (decide (x4 < ((x0.length : Nat) : Int)))) then (bif ((decide (0 ≤ x4)) && (decide (x4 < ((y0.length : Nat) : Int)))) then (bif (decide ((Int.toNat x4) < y0.length)) then (rec (x0, (IntKind.wrap .i64 (x4 + (1 : Int))), (y0.set (Int.toNat x4) (x0.getD (Int.toNat x4) (0 : Int))))) else none) else none) else none) else (kx0 y0))
def l3 {R : Type} (k : Nat) : Nat → (List Int) × Int × (List Int) → ((List Int) → Option R) → Option R
  | 0, _, _ => none
  | n + 1, v, kx0 => s3 k (fun w => l3 k n w kx0) kx0 v
theorem l3_fix {R : Type} {k : Nat} {kx0 : ((List Int) → Option R)} (Inv : ((List Int) × Int × (List Int)) → Prop) (μ : ((List Int) × Int × (List Int)) → Nat) (G : ((List Int) × Int × (List Int)) → Option R) (h : ∀ v rec, Inv v → (∀ w, Inv w → μ w < μ v → rec w = G w) → s3 k rec kx0 v = G v) : ∀ n v, Inv v → μ v < n → l3 k n v kx0 = G v := loop_fix (S := fun rec v => s3 k rec kx0 v) (fun _ _ => rfl) Inv μ G h
theorem l3_for {R : Type} {k : Nat} {kx0 : ((List Int) → Option R)} (N : Nat) (Inv : Nat → ((List Int)) → ((List Int)) → Prop) (G : Nat → ((List Int)) → ((List Int)) → Option R) (h : ∀ (i : Nat) (x0 : (List Int)) (y0 : (List Int)) (rec : (List Int) × Int × (List Int) → Option R), i ≤ N → Inv i x0 y0 → (∀ (x0' : (List Int)) (y0' : (List Int)), i < N → Inv (i + 1) x0' y0' → rec (x0', ((i : Int) + 1), y0') = G (i + 1) x0' y0') → s3 k rec kx0 (x0, (i : Int), y0) = G i x0 y0) : ∀ (n i : Nat) (x0 : (List Int)) (y0 : (List Int)), i ≤ N → Inv i x0 y0 → N - i < n → l3 k n (x0, (i : Int), y0) kx0 = G i x0 y0 := by
  intro n
  induction n with
  | zero => intro i x0 y0 _ _ h0; omega
  | succ n ih =>
    intro i x0 y0 hi hv hn
    exact h i x0 y0 (fun w => l3 k n w kx0) hi hv (fun x0' y0' hlt hv' => ih (i + 1) x0' y0' hlt hv' (by omega))
def f (k : Nat) (a0 : (List Int)) : (Option (((List Int) × Unit) × (Unit))) :=
  (bif ((decide (0 ≤ ((a0.length : Nat) : Int))) && ((decide (((a0.length : Nat) : Int) ≤ ((a0.length : Nat) : Int))) && (decide (((a0.length : Nat) : Int) * ((8 : Nat) : Int) ≤ (AM.maxBytes : Int))))) then (l3 k k (a0, (0 : Int), (List.replicate (Int.toNat ((a0.length : Nat) : Int)) (0 : Int))) (fun o1 => (some ((o1, ()), ())))) else none)
end laws_toInt64S

/-! ### loop.example/g00910/laws.eqInt64S -/
namespace laws_eqInt64S
def s4 {R : Type} (k : Nat) (rec : (List Int) × (List Int) × Int → Option R) (kx0 : (Unit → Option R)) (kr : (Bool → Option R)) : (List Int) × (List Int) × Int → Option R := fun (x0, x1, x5) =>
  (bif (decide (x5 < ((x0.length : Nat) : Int))) then (bif ((decide (0 ≤ x5)) && (decide (x5 < ((x0.length : Nat) : Int)))) then (bif ((decide (0 ≤ x5)) && (decide (x5 < ((x1.length : Nat) : Int)))) then (bif ((x0.getD (Int.toNat x5) (0 : Int)) != (x1.getD (Int.toNat x5) (0 : Int))) then (kr false) else (rec (x0, x1, (IntKind.wrap .i64 (x5 + (1 : Int)))))) else none) else none) else (kx0 ()))
def l4 {R : Type} (k : Nat) : Nat → (List Int) × (List Int) × Int → (Unit → Option R) → (Bool → Option R) → Option R
  | 0, _, _, _ => none
  | n + 1, v, kx0, kr => s4 k (fun w => l4 k n w kx0 kr) kx0 kr v
theorem l4_fix {R : Type} {k : Nat} {kx0 : (Unit → Option R)} {kr : (Bool → Option R)} (Inv : ((List Int) × (List Int) × Int) → Prop) (μ : ((List Int) × (List Int) × Int) → Nat) (G : ((List Int) × (List Int) × Int) → Option R) (h : ∀ v rec, Inv v → (∀ w, Inv w → μ w < μ v → rec w = G w) → s4 k rec kx0 kr v = G v) : ∀ n v, Inv v → μ v < n → l4 k n v kx0 kr = G v := loop_fix (S := fun rec v => s4 k rec kx0 kr v) (fun _ _ => rfl) Inv μ G h
theorem l4_for {R : Type} {k : Nat} {kx0 : (Unit → Option R)} {kr : (Bool → Option R)} (N : Nat) (Inv : Nat → ((List Int)) → ((List Int)) → Prop) (G : Nat → ((List Int)) → ((List Int)) → Option R) (h : ∀ (i : Nat) (x0 : (List Int)) (x1 : (List Int)) (rec : (List Int) × (List Int) × Int → Option R), i ≤ N → Inv i x0 x1 → (∀ (x0' : (List Int)) (x1' : (List Int)), i < N → Inv (i + 1) x0' x1' → rec (x0', x1', ((i : Int) + 1)) = G (i + 1) x0' x1') → s4 k rec kx0 kr (x0, x1, (i : Int)) = G i x0 x1) : ∀ (n i : Nat) (x0 : (List Int)) (x1 : (List Int)), i ≤ N → Inv i x0 x1 → N - i < n → l4 k n (x0, x1, (i : Int)) kx0 kr = G i x0 x1 := by
  intro n
  induction n with
  | zero => intro i x0 x1 _ _ h0; omega
  | succ n ih =>
    intro i x0 x1 hi hv hn
    exact h i x0 x1 (fun w => l4 k n w kx0 kr) hi hv (fun x0' x1' hlt hv' => ih (i + 1) x0' x1' hlt hv' (by omega))
def f (k : Nat) (a0 : (List Int)) (a1 : (List Int)) : (Option ((Bool × Unit) × (Unit))) :=
  (bif (((a0.length : Nat) : Int) != ((a1.length : Nat) : Int)) then (some ((false, ()), ())) else (l4 k k (a0, a1, (0 : Int)) (fun (_ : Unit) => (some ((true, ()), ()))) (fun o1 => (some ((o1, ()), ())))))
end laws_eqInt64S

/-! ### loop.example/g00910/spec.l01In -/
namespace spec_l01In
def f (k : Nat) (a0 : Int) (a1 : Int) (a2 : Int) : (Option ((Bool × Unit) × (Unit))) :=
  (bif (decide (a0 ≥ a1)) then (some (((decide (a0 ≤ a2)), ()), ())) else (some ((false, ()), ())))
end spec_l01In

/-! ### loop.example/g00910/spec.l10Chips -/
namespace spec_l10Chips
def s2 {R : Type} (k : Nat) (rec : (List Int) × Int × Int → Option R) (kx0 : ((List Int) × Int → Option R)) (kr : ((List Int) × Int × Bool → Option R)) : (List Int) × Int × Int → Option R := fun (x0, x1, x5) =>
  (bif (decide (x5 < ((x0.length : Nat) : Int))) then (bif ((decide (0 ≤ x5)) && (decide (x5 < ((x0.length : Nat) : Int)))) then ((spec_l01In.f k (x0.getD (Int.toNat x5) (0 : Int)) (0 : Int) (600000 : Int)).bind fun r1 => (bif (!r1.1.1) then (kr (x0, x1, false)) else (rec (x0, x1, (IntKind.wrap .i64 (x5 + (1 : Int))))))) else none) else (kx0 (x0, x1)))
def l2 {R : Type} (k : Nat) : Nat → (List Int) × Int × Int → ((List Int) × Int → Option R) → ((List Int) × Int × Bool → Option R) → Option R
  | 0, _, _, _ => none
  | n + 1, v, kx0, kr => s2 k (fun w => l2 k n w kx0 kr) kx0 kr v
theorem l2_fix {R : Type} {k : Nat} {kx0 : ((List Int) × Int → Option R)} {kr : ((List Int) × Int × Bool → Option R)} (Inv : ((List Int) × Int × Int) → Prop) (μ : ((List Int) × Int × Int) → Nat) (G : ((List Int) × Int × Int) → Option R) (h : ∀ v rec, Inv v → (∀ w, Inv w → μ w < μ v → rec w = G w) → s2 k rec kx0 kr v = G v) : ∀ n v, Inv v → μ v < n → l2 k n v kx0 kr = G v := loop_fix (S := fun rec v => s2 k rec kx0 kr v) (fun _ _ => rfl) Inv μ G h
theorem l2_for {R : Type} {k : Nat} {kx0 : ((List Int) × Int → Option R)} {kr : ((List Int) × Int × Bool → Option R)} (N : Nat) (Inv : Nat → ((List Int)) → (Int) → Prop) (G : Nat → ((List Int)) → (Int) → Option R) (h : ∀ (i : Nat) (x0 : (List Int)) (x1 : Int) (rec : (List Int) × Int × Int → Option R), i ≤ N → Inv i x0 x1 → (∀ (x0' : (List Int)) (x1' : Int), i < N → Inv (i + 1) x0' x1' → rec (x0', x1', ((i : Int) + 1)) = G (i + 1) x0' x1') → s2 k rec kx0 kr (x0, x1, (i : Int)) = G i x0 x1) : ∀ (n i : Nat) (x0 : (List Int)) (x1 : Int), i ≤ N → Inv i x0 x1 → N - i < n → l2 k n (x0, x1, (i : Int)) kx0 kr = G i x0 x1 := by
  intro n
  induction n with
  | zero => intro i x0 x1 _ _ h0; omega
  | succ n ih =>
    intro i x0 x1 hi hv hn
    exact h i x0 x1 (fun w => l2 k n w kx0 kr) hi hv (fun x0' x1' hlt hv' => ih (i + 1) x0' x1' hlt hv' (by omega))
def f (k : Nat) (a0 : (List Int)) (a1 : Int) : (Option ((Bool × Unit) × (Unit))) :=
  (l2 k k (a0, a1, (0 : Int)) (fun (o2, o3) => (some (((((o2.length : Nat) : Int) == o3), ()), ()))) (fun (o4, o5, o6) => (some ((o6, ()), ()))))
end spec_l10Chips

/-! ### loop.example/g00910/spec.l01Sum -/
namespace spec_l01Sum
def s3 {R : Type} (k : Nat) (rec : (List Int) × Int × Int → Option R) (kx0 : (Int → Option R)) : (List Int) × Int × Int → Option R := fun (x0, x3, x4) =>
  (bif (decide (x4 < ((x0.length : Nat) : Int))) then (bif ((decide (0 ≤ x4)) && (decide (x4 < ((x0.length : Nat) : Int)))) then (rec (x0, (IntKind.wrap .i64 (x3 + (x0.getD (Int.toNat x4) (0 : Int)))), (IntKind.wrap .i64 (x4 + (1 : Int))))) else none) else (kx0 x3))
def l3 {R : Type} (k : Nat) : Nat → (List Int) × Int × Int → (Int → Option R) → Option R
  | 0, _, _ => none
  | n + 1, v, kx0 => s3 k (fun w => l3 k n w kx0) kx0 v
theorem l3_fix {R : Type} {k : Nat} {kx0 : (Int → Option R)} (Inv : ((List Int) × Int × Int) → Prop) (μ : ((List Int) × Int × Int) → Nat) (G : ((List Int) × Int × Int) → Option R) (h : ∀ v rec, Inv v → (∀ w, Inv w → μ w < μ v → rec w = G w) → s3 k rec kx0 v = G v) : ∀ n v, Inv v → μ v < n → l3 k n v kx0 = G v := loop_fix (S := fun rec v => s3 k rec kx0 v) (fun _ _ => rfl) Inv μ G h
theorem l3_for {R : Type} {k : Nat} {kx0 : (Int → Option R)} (N : Nat) (Inv : Nat → ((List Int)) → (Int) → Prop) (G : Nat → ((List Int)) → (Int) → Option R) (h : ∀ (i : Nat) (x0 : (List Int)) (x3 : Int) (rec : (List Int) × Int × Int → Option R), i ≤ N → Inv i x0 x3 → (∀ (x0' : (List Int)) (x3' : Int), i < N → Inv (i + 1) x0' x3' → rec (x0', x3', ((i : Int) + 1)) = G (i + 1) x0' x3') → s3 k rec kx0 (x0, x3, (i : Int)) = G i x0 x3) : ∀ (n i : Nat) (x0 : (List Int)) (x3 : Int), i ≤ N → Inv i x0 x3 → N - i < n → l3 k n (x0, x3, (i : Int)) kx0 = G i x0 x3 := by
  intro n
  induction n with
  | zero => intro i x0 x3 _ _ h0; omega
  | succ n ih =>
    intro i x0 x3 hi hv hn
    exact h i x0 x3 (fun w => l3 k n w kx0) hi hv (fun x0' x3' hlt hv' => ih (i + 1) x0' x3' hlt hv' (by omega))
def f (k : Nat) (a0 : (List Int)) : (Option ((Int × Unit) × (Unit))) :=
  (l3 k k (a0, (0 : Int), (0 : Int)) (fun o1 => (some ((o1, ()), ()))))
end spec_l01Sum

/-! ### loop.example/g00910/spec.NetResult -/
namespace spec_NetResult
def s7 {R : Type} (k : Nat) (rec : (List Int) × (List Int) × Int × (List Int) → Option R) (kx0 : ((List Int) → Option R)) : (List Int) × (List Int) × Int × (List Int) → Option R := fun (x0, x1, x7, y0) =>
  (bif (decide (x7 < ((x0.length : Nat) : Int))) then (bif ((decide (0 ≤ x7)) && (decide (x7 < ((x1.length : Nat) : Int)))) then (bif ((decide (0 ≤ x7)) && (decide (x7 < ((x0.length : Nat) : Int)))) then (bif (decide ((y0.length + ([(IntKind.wrap .i64 ((x1.getD (Int.toNat x7) (0 : Int)) - (x0.getD (Int.toNat x7) (0 : Int))))] : List Int).length) * 8 ≤ AM.maxBytes)) then (rec (x0, x1, (IntKind.wrap .i64 (x7 + (1 : Int))), (y0 ++ ([(IntKind.wrap .i64 ((x1.getD (Int.toNat x7) (0 : Int)) - (x0.getD (Int.toNat x7) (0 : Int))))] : List Int)))) else none) else none) else none) else (kx0 y0))
def l7 {R : Type} (k : Nat) : Nat → (List Int) × (List Int) × Int × (List Int) → ((List Int) → Option R) → Option R
  | 0, _, _ => none
  | n + 1, v, kx0 => s7 k (fun w => l7 k n w kx0) kx0 v
theorem l7_fix {R : Type} {k : Nat} {kx0 : ((List Int) → Option R)} (Inv : ((List Int) × (List Int) × Int × (List Int)) → Prop) (μ : ((List Int) × (List Int) × Int × (List Int)) → Nat) (G : ((List Int) × (List Int) × Int × (List Int)) → Option R) (h : ∀ v rec, Inv v → (∀ w, Inv w → μ w < μ v → rec w = G w) → s7 k rec kx0 v = G v) : ∀ n v, Inv v → μ v < n → l7 k n v kx0 = G v := loop_fix (S := fun rec v => s7 k rec kx0 v) (fun _ _ => rfl) Inv μ G h
theorem l7_for {R : Type} {k : Nat} {kx0 : ((List Int) → Option R)} (N : Nat) (Inv : Nat → ((List Int)) → ((List Int)) → ((List Int)) → Prop) (G : Nat → ((List Int)) → ((List Int)) → ((List Int)) → Option R) (h : ∀ (i : Nat) (x0 : (List Int)) (x1 : (List Int)) (y0 : (List Int)) (rec : (List Int) × (List Int) × Int × (List Int) → Option R), i ≤ N → Inv i x0 x1 y0 → (∀ (x0' : (List Int)) (x1' : (List Int)) (y0' : (List Int)), i < N → Inv (i + 1) x0' x1' y0' → rec (x0', x1', ((i : Int) + 1), y0') = G (i + 1) x0' x1' y0') → s7 k rec kx0 (x0, x1, (i : Int), y0) = G i x0 x1 y0) : ∀ (n i : Nat) (x0 : (List Int)) (x1 : (List Int)) (y0 : (List Int)), i ≤ N → Inv i x0 x1 y0 → N - i < n → l7 k n (x0, x1, (i : Int), y0) kx0 = G i x0 x1 y0 := by
  intro n
  induction n with
  | zero => intro i x0 x1 y0 _ _ h0; omega
  | succ n ih =>
    intro i x0 x1 y0 hi hv hn
    exact h i x0 x1 y0 (fun w => l7 k n w kx0) hi hv (fun x0' x1' y0' hlt hv' => ih (i + 1) x0' x1' y0' hlt hv' (by omega))
def f (k : Nat) (a0 : (List Int)) (a1 : (List Int)) : (Option (((List Int) × Int × Unit) × (Unit))) :=
  (bif (decide (((a0.length : Nat) : Int) > (6 : Int))) then (some ((([] : List Int), ((2 : Int), ())), ())) else ((spec_l10Chips.f k a0 ((a1.length : Nat) : Int)).bind fun r1 => (bif (!r1.1.1) then (some ((([] : List Int), ((2 : Int), ())), ())) else ((spec_l10Chips.f k a1 ((a0.length : Nat) : Int)).bind fun r2 => (bif (!r2.1.1) then (some ((([] : List Int), ((2 : Int), ())), ())) else ((spec_l01Sum.f k a0).bind fun r3 => ((spec_l01Sum.f k a1).bind fun r4 => (bif (r3.1.1 != r4.1.1) then (some ((([] : List Int), ((5 : Int), ())), ())) else (l7 k k (a0, a1, (0 : Int), ([] : List Int)) (fun o5 => (some ((o5, ((0 : Int), ())), ()))))))))))))
end spec_NetResult

/-! ### loop.example/g00910/impl.within -/
namespace impl_within
def f (k : Nat) (a0 : Int) (a1 : Int) (a2 : Int) : (Option ((Bool × Unit) × (Unit))) :=
  (bif (decide (a0 ≥ a1)) then (some (((decide (a0 ≤ a2)), ()), ())) else (some ((false, ()), ())))
end impl_within

/-! ### loop.example/g00910/impl.allWithin -/
namespace impl_allWithin
def s2 {R : Type} (k : Nat) (rec : Int × Int × (List Int) × Int × Int → Option R) (kx0 : (Unit → Option R)) (kr : (Bool → Option R)) : Int × Int × (List Int) × Int × Int → Option R := fun (x1, x2, x9, x10, x11) =>
  (bif (decide (x11 < x10)) then (bif ((decide (0 ≤ x11)) && (decide (x11 < ((x9.length : Nat) : Int)))) then ((impl_within.f k (x9.getD (Int.toNat x11) (0 : Int)) x1 x2).bind fun r1 => (bif (!r1.1.1) then (kr false) else (rec (x1, x2, x9, x10, (IntKind.wrap .i64 (x11 + (1 : Int))))))) else none) else (kx0 ()))
def l2 {R : Type} (k : Nat) : Nat → Int × Int × (List Int) × Int × Int → (Unit → Option R) → (Bool → Option R) → Option R
  | 0, _, _, _ => none
  | n + 1, v, kx0, kr => s2 k (fun w => l2 k n w kx0 kr) kx0 kr v
theorem l2_fix {R : Type} {k : Nat} {kx0 : (Unit → Option R)} {kr : (Bool → Option R)} (Inv : (Int × Int × (List Int) × Int × Int) → Prop) (μ : (Int × Int × (List Int) × Int × Int) → Nat) (G : (Int × Int × (List Int) × Int × Int) → Option R) (h : ∀ v rec, Inv v → (∀ w, Inv w → μ w < μ v → rec w = G w) → s2 k rec kx0 kr v = G v) : ∀ n v, Inv v → μ v < n → l2 k n v kx0 kr = G v := loop_fix (S := fun rec v => s2 k rec kx0 kr v) (fun _ _ => rfl) Inv μ G h
theorem l2_for {R : Type} {k : Nat} {kx0 : (Unit → Option R)} {kr : (Bool → Option R)} (N : Nat) (Inv : Nat → (Int) → (Int) → ((List Int)) → (Int) → Prop) (G : Nat → (Int) → (Int) → ((List Int)) → (Int) → Option R) (h : ∀ (i : Nat) (x1 : Int) (x2 : Int) (x9 : (List Int)) (x10 : Int) (rec : Int × Int × (List Int) × Int × Int → Option R), i ≤ N → Inv i x1 x2 x9 x10 → (∀ (x1' : Int) (x2' : Int) (x9' : (List Int)) (x10' : Int), i < N → Inv (i + 1) x1' x2' x9' x10' → rec (x1', x2', x9', x10', ((i : Int) + 1)) = G (i + 1) x1' x2' x9' x10') → s2 k rec kx0 kr (x1, x2, x9, x10, (i : Int)) = G i x1 x2 x9 x10) : ∀ (n i : Nat) (x1 : Int) (x2 : Int) (x9 : (List Int)) (x10 : Int), i ≤ N → Inv i x1 x2 x9 x10 → N - i < n → l2 k n (x1, x2, x9, x10, (i : Int)) kx0 kr = G i x1 x2 x9 x10 := by
  intro n
  induction n with
  | zero => intro i x1 x2 x9 x10 _ _ h0; omega
  | succ n ih =>
    intro i x1 x2 x9 x10 hi hv hn
    exact h i x1 x2 x9 x10 (fun w => l2 k n w kx0 kr) hi hv (fun x1' x2' x9' x10' hlt hv' => ih (i + 1) x1' x2' x9' x10' hlt hv' (by omega))
def f (k : Nat) (a0 : (List Int)) (a1 : Int) (a2 : Int) : (Option ((Bool × Unit) × (Unit))) :=
  (l2 k k (a1, a2, a0, ((a0.length : Nat) : Int), (0 : Int)) (fun (_ : Unit) => (some ((true, ()), ()))) (fun o2 => (some ((o2, ()), ()))))
end impl_allWithin

/-! ### loop.example/g00910/impl.sumOf -/
namespace impl_sumOf
def s3 {R : Type} (k : Nat) (rec : Int × (List Int) × Int × Int → Option R) (kx0 : (Int → Option R)) : Int × (List Int) × Int × Int → Option R := fun (x3, x6, x7, x8) =>
  (bif (decide (x8 < x7)) then (bif ((decide (0 ≤ x8)) && (decide (x8 < ((x6.length : Nat) : Int)))) then (rec ((IntKind.wrap .i64 (x3 + (x6.getD (Int.toNat x8) (0 : Int)))), x6, x7, (IntKind.wrap .i64 (x8 + (1 : Int))))) else none) else (kx0 x3))
def l3 {R : Type} (k : Nat) : Nat → Int × (List Int) × Int × Int → (Int → Option R) → Option R
  | 0, _, _ => none
  | n + 1, v, kx0 => s3 k (fun w => l3 k n w kx0) kx0 v
theorem l3_fix {R : Type} {k : Nat} {kx0 : (Int → Option R)} (Inv : (Int × (List Int) × Int × Int) → Prop) (μ : (Int × (List Int) × Int × Int) → Nat) (G : (Int × (List Int) × Int × Int) → Option R) (h : ∀ v rec, Inv v → (∀ w, Inv w → μ w < μ v → rec w = G w) → s3 k rec kx0 v = G v) : ∀ n v, Inv v → μ v < n → l3 k n v kx0 = G v := loop_fix (S := fun rec v => s3 k rec kx0 v) (fun _ _ => rfl) Inv μ G h
theorem l3_for {R : Type} {k : Nat} {kx0 : (Int → Option R)} (N : Nat) (Inv : Nat → (Int) → ((List Int)) → (Int) → Prop) (G : Nat → (Int) → ((List Int)) → (Int) → Option R) (h : ∀ (i : Nat) (x3 : Int) (x6 : (List Int)) (x7 : Int) (rec : Int × (List Int) × Int × Int → Option R), i ≤ N → Inv i x3 x6 x7 → (∀ (x3' : Int) (x6' : (List Int)) (x7' : Int), i < N → Inv (i + 1) x3' x6' x7' → rec (x3', x6', x7', ((i : Int) + 1)) = G (i + 1) x3' x6' x7') → s3 k rec kx0 (x3, x6, x7, (i : Int)) = G i x3 x6 x7) : ∀ (n i : Nat) (x3 : Int) (x6 : (List Int)) (x7 : Int), i ≤ N → Inv i x3 x6 x7 → N - i < n → l3 k n (x3, x6, x7, (i : Int)) kx0 = G i x3 x6 x7 := by
  intro n
  induction n with
  | zero => intro i x3 x6 x7 _ _ h0; omega
  | succ n ih =>
    intro i x3 x6 x7 hi hv hn
    exact h i x3 x6 x7 (fun w => l3 k n w kx0) hi hv (fun x3' x6' x7' hlt hv' => ih (i + 1) x3' x6' x7' hlt hv' (by omega))
def f (k : Nat) (a0 : (List Int)) : (Option ((Int × Unit) × (Unit))) :=
  (l3 k k ((0 : Int), a0, ((a0.length : Nat) : Int), (0 : Int)) (fun o1 => (some ((o1, ()), ()))))
end impl_sumOf

/-! ### slices.Clone[[]int64,int64] -/
namespace slices_Clone_int64_int64
def f (k : Nat) (a0 : (List Int)) : (Option (((List Int) × Unit) × (Unit))) :=
  (bif (decide (0 < a0.length)) then (bif (decide ((([] : List Int).length + a0.length) * 8 ≤ AM.maxBytes)) then (some (((([] : List Int) ++ a0), ()), ())) else none) else (AM.both (some ((([] : List Int), ()), ())) (bif (decide ((([] : List Int).length + a0.length) * 8 ≤ AM.maxBytes)) then (some (((([] : List Int) ++ a0), ()), ())) else none)))
end slices_Clone_int64_int64

/-! ### loop.example/g00910/impl.NetResult -/
namespace impl_NetResult
def s7 {R : Type} (k : Nat) (rec : (List Int) × Int × Int × (List Int) → Option R) (kx0 : ((List Int) → Option R)) : (List Int) × Int × Int × (List Int) → Option R := fun (x36, x37, x38, y0) =>
  (bif (decide (x38 < x37)) then (bif ((decide (0 ≤ x38)) && (decide (x38 < ((x36.length : Nat) : Int)))) then (bif ((decide (0 ≤ x38)) && (decide (x38 < ((y0.length : Nat) : Int)))) then (bif (decide ((Int.toNat x38) < y0.length)) then (bif ((decide (0 ≤ x38)) && (decide (x38 < ((y0.length : Nat) : Int)))) then (bif (decide ((Int.toNat x38) < y0.length)) then (rec (x36, x37, (IntKind.wrap .i64 (x38 + (1 : Int))), (y0.set (Int.toNat x38) (IntKind.wrap .i64 ((y0.getD (Int.toNat x38) (0 : Int)) - (x36.getD (Int.toNat x38) (0 : Int))))))) else none) else none) else none) else none) else none) else (kx0 y0))
def l7 {R : Type} (k : Nat) : Nat → (List Int) × Int × Int × (List Int) → ((List Int) → Option R) → Option R
  | 0, _, _ => none
  | n + 1, v, kx0 => s7 k (fun w => l7 k n w kx0) kx0 v
theorem l7_fix {R : Type} {k : Nat} {kx0 : ((List Int) → Option R)} (Inv : ((List Int) × Int × Int × (List Int)) → Prop) (μ : ((List Int) × Int × Int × (List Int)) → Nat) (G : ((List Int) × Int × Int × (List Int)) → Option R) (h : ∀ v rec, Inv v → (∀ w, Inv w → μ w < μ v → rec w = G w) → s7 k rec kx0 v = G v) : ∀ n v, Inv v → μ v < n → l7 k n v kx0 = G v := loop_fix (S := fun rec v => s7 k rec kx0 v) (fun _ _ => rfl) Inv μ G h
theorem l7_for {R : Type} {k : Nat} {kx0 : ((List Int) → Option R)} (N : Nat) (Inv : Nat → ((List Int)) → (Int) → ((List Int)) → Prop) (G : Nat → ((List Int)) → (Int) → ((List Int)) → Option R) (h : ∀ (i : Nat) (x36 : (List Int)) (x37 : Int) (y0 : (List Int)) (rec : (List Int) × Int × Int × (List Int) → Option R), i ≤ N → Inv i x36 x37 y0 → (∀ (x36' : (List Int)) (x37' : Int) (y0' : (List Int)), i < N → Inv (i + 1) x36' x37' y0' → rec (x36', x37', ((i : Int) + 1), y0') = G (i + 1) x36' x37' y0') → s7 k rec kx0 (x36, x37, (i : Int), y0) = G i x36 x37 y0) : ∀ (n i : Nat) (x36 : (List Int)) (x37 : Int) (y0 : (List Int)), i ≤ N → Inv i x36 x37 y0 → N - i < n → l7 k n (x36, x37, (i : Int), y0) kx0 = G i x36 x37 y0 := by
  intro n
  induction n with
  | zero => intro i x36 x37 y0 _ _ h0; omega
  | succ n ih =>
    intro i x36 x37 y0 hi hv hn
    exact h i x36 x37 y0 (fun w => l7 k n w kx0) hi hv (fun x36' x37' y0' hlt hv' => ih (i + 1) x36' x37' y0' hlt hv' (by omega))
def f (k : Nat) (a0 : (List Int)) (a1 : (List Int)) : (Option (((List Int) × Int × Unit) × (Unit))) :=
  (bif (((a0.length : Nat) : Int) != ((a1.length : Nat) : Int)) then (some ((([] : List Int), ((2 : Int), ())), ())) else (bif (decide (((a0.length : Nat) : Int) > (6 : Int))) then (some ((([] : List Int), ((2 : Int), ())), ())) else ((impl_allWithin.f k a0 (0 : Int) (600000 : Int)).bind fun r1 => (bif (!r1.1.1) then (some ((([] : List Int), ((2 : Int), ())), ())) else ((impl_allWithin.f k a1 (0 : Int) (600000 : Int)).bind fun r2 => (bif (!r2.1.1) then (some ((([] : List Int), ((2 : Int), ())), ())) else ((impl_sumOf.f k a0).bind fun r3 => ((impl_sumOf.f k a1).bind fun r4 => (bif (r3.1.1 != r4.1.1) then (some ((([] : List Int), ((5 : Int), ())), ())) else ((slices_Clone_int64_int64.f k a1).bind fun r5 => (l7 k k (a0, ((a0.length : Nat) : Int), (0 : Int), r5.1.1) (fun o6 => (some ((o6, ((0 : Int), ())), ()))))))))))))))
end impl_NetResult

/-! ### loop.example/g00910/laws.markInt64S -/
namespace laws_markInt64S
def s2 {R : Type} (k : Nat) (rec : Int × Int × (List Int) → Option R) (kx0 : (Int × (List Int) → Option R)) : Int × Int × (List Int) → Option R := fun (x1, x5, y0) =>
  (bif (decide (x5 < ((y0.length : Nat) : Int))) then (bif ((decide (0 ≤ x5)) && (decide (x5 < ((y0.length : Nat) : Int)))) then (bif (decide ((Int.toNat x5) < y0.length)) then (rec ((IntKind.wrap .i64 (x1 + (1 : Int))), (IntKind.wrap .i64 (x5 + (1 : Int))), (y0.set (Int.toNat x5) x1))) else none) else none) else (kx0 (x1, y0)))
def l2 {R : Type} (k : Nat) : Nat → Int × Int × (List Int) → (Int × (List Int) → Option R) → Option R
  | 0, _, _ => none
  | n + 1, v, kx0 => s2 k (fun w => l2 k n w kx0) kx0 v
theorem l2_fix {R : Type} {k : Nat} {kx0 : (Int × (List Int) → Option R)} (Inv : (Int × Int × (List Int)) → Prop) (μ : (Int × Int × (List Int)) → Nat) (G : (Int × Int × (List Int)) → Option R) (h : ∀ v rec, Inv v → (∀ w, Inv w → μ w < μ v → rec w = G w) → s2 k rec kx0 v = G v) : ∀ n v, Inv v → μ v < n → l2 k n v kx0 = G v := loop_fix (S := fun rec v => s2 k rec kx0 v) (fun _ _ => rfl) Inv μ G h
theorem l2_for {R : Type} {k : Nat} {kx0 : (Int × (List Int) → Option R)} (N : Nat) (Inv : Nat → (Int) → ((List Int)) → Prop) (G : Nat → (Int) → ((List Int)) → Option R) (h : ∀ (i : Nat) (x1 : Int) (y0 : (List Int)) (rec : Int × Int × (List Int) → Option R), i ≤ N → Inv i x1 y0 → (∀ (x1' : Int) (y0' : (List Int)), i < N → Inv (i + 1) x1' y0' → rec (x1', ((i : Int) + 1), y0') = G (i + 1) x1' y0') → s2 k rec kx0 (x1, (i : Int), y0) = G i x1 y0) : ∀ (n i : Nat) (x1 : Int) (y0 : (List Int)), i ≤ N → Inv i x1 y0 → N - i < n → l2 k n (x1, (i : Int), y0) kx0 = G i x1 y0 := by
  intro n
  induction n with
  | zero => intro i x1 y0 _ _ h0; omega
  | succ n ih =>
    intro i x1 y0 hi hv hn
    exact h i x1 y0 (fun w => l2 k n w kx0) hi hv (fun x1' y0' hlt hv' => ih (i + 1) x1' y0' hlt hv' (by omega))
def f (k : Nat) (a0 : (List Int)) (a1 : Int) : (Option ((Int × Unit) × ((List Int) × Unit))) :=
  (l2 k k (a1, (0 : Int), a0) (fun (o1, o2) => (some ((o1, ()), (o2, ())))))
end laws_markInt64S

/-! ### loop.example/g00910/laws.heldInt64S -/
namespace laws_heldInt64S
def s2 {R : Type} (k : Nat) (rec : (List Int) × Int × Int → Option R) (kx0 : (Int → Option R)) (kr : (Int × Int → Option R)) : (List Int) × Int × Int → Option R := fun (x0, x1, x5) =>
  (bif (decide (x5 < ((x0.length : Nat) : Int))) then (bif ((decide (0 ≤ x5)) && (decide (x5 < ((x0.length : Nat) : Int)))) then (bif ((x0.getD (Int.toNat x5) (0 : Int)) != x1) then (kr (x1, (-1 : Int))) else (rec (x0, (IntKind.wrap .i64 (x1 + (1 : Int))), (IntKind.wrap .i64 (x5 + (1 : Int)))))) else none) else (kx0 x1))
def l2 {R : Type} (k : Nat) : Nat → (List Int) × Int × Int → (Int → Option R) → (Int × Int → Option R) → Option R
  | 0, _, _, _ => none
  | n + 1, v, kx0, kr => s2 k (fun w => l2 k n w kx0 kr) kx0 kr v
theorem l2_fix {R : Type} {k : Nat} {kx0 : (Int → Option R)} {kr : (Int × Int → Option R)} (Inv : ((List Int) × Int × Int) → Prop) (μ : ((List Int) × Int × Int) → Nat) (G : ((List Int) × Int × Int) → Option R) (h : ∀ v rec, Inv v → (∀ w, Inv w → μ w < μ v → rec w = G w) → s2 k rec kx0 kr v = G v) : ∀ n v, Inv v → μ v < n → l2 k n v kx0 kr = G v := loop_fix (S := fun rec v => s2 k rec kx0 kr v) (fun _ _ => rfl) Inv μ G h
theorem l2_for {R : Type} {k : Nat} {kx0 : (Int → Option R)} {kr : (Int × Int → Option R)} (N : Nat) (Inv : Nat → ((List Int)) → (Int) → Prop) (G : Nat → ((List Int)) → (Int) → Option R) (h : ∀ (i : Nat) (x0 : (List Int)) (x1 : Int) (rec : (List Int) × Int × Int → Option R), i ≤ N → Inv i x0 x1 → (∀ (x0' : (List Int)) (x1' : Int), i < N → Inv (i + 1) x0' x1' → rec (x0', x1', ((i : Int) + 1)) = G (i + 1) x0' x1') → s2 k rec kx0 kr (x0, x1, (i : Int)) = G i x0 x1) : ∀ (n i : Nat) (x0 : (List Int)) (x1 : Int), i ≤ N → Inv i x0 x1 → N - i < n → l2 k n (x0, x1, (i : Int)) kx0 kr = G i x0 x1 := by
  intro n
  induction n with
  | zero => intro i x0 x1 _ _ h0; omega
  | succ n ih =>
    intro i x0 x1 hi hv hn
    exact h i x0 x1 (fun w => l2 k n w kx0 kr) hi hv (fun x0' x1' hlt hv' => ih (i + 1) x0' x1' hlt hv' (by omega))
def f (k : Nat) (a0 : (List Int)) (a1 : Int) : (Option ((Int × Unit) × (Unit))) :=
  (l2 k k (a0, a1, (0 : Int)) (fun o1 => (some ((o1, ()), ()))) (fun (o2, o3) => (some ((o3, ()), ()))))
end laws_heldInt64S

/-! ### loop.example/g00910/laws.FnExactNetResult -/
namespace laws_FnExactNetResult
def f (k : Nat) (a0 : (List Int)) (a1 : (List Int)) : (Option ((Bool × Unit) × (Unit))) :=
  (bif (decide (((a0.length : Nat) : Int) > (1048576 : Int))) then (some ((true, ()), ())) else (bif (decide (((a1.length : Nat) : Int) > (1048576 : Int))) then (some ((true, ()), ())) else ((laws_toInt64S.f k a0).bind fun r1 => ((laws_toInt64S.f k a1).bind fun r2 => ((spec_NetResult.f k r1.1.1 r2.1.1).bind fun r3 => ((laws_toInt64S.f k a0).bind fun r4 => ((laws_toInt64S.f k a1).bind fun r5 => ((impl_NetResult.f k r4.1.1 r5.1.1).bind fun r6 => ((laws_eqInt64S.f k r6.1.1 r3.1.1).bind fun r7 => (bif (!r7.1.1) then (some ((false, ()), ())) else (bif (r6.1.2.1 != r3.1.2.1) then (some ((false, ()), ())) else ((laws_toInt64S.f k a0).bind fun r8 => ((laws_eqInt64S.f k r4.1.1 r8.1.1).bind fun r9 => (bif (!r9.1.1) then (some ((false, ()), ())) else ((laws_toInt64S.f k a1).bind fun r10 => ((laws_eqInt64S.f k r5.1.1 r10.1.1).bind fun r11 => (bif (!r11.1.1) then (some ((false, ()), ())) else ((laws_markInt64S.f k r4.1.1 (1 : Int)).bind fun r12 => ((laws_markInt64S.f k r5.1.1 r12.1.1).bind fun r13 => (bif (decide (r13.1.1 < (0 : Int))) then (some ((false, ()), ())) else ((laws_eqInt64S.f k r6.1.1 r3.1.1).bind fun r14 => (bif (!r14.1.1) then (some ((false, ()), ())) else (bif (r6.1.2.1 != r3.1.2.1) then (some ((false, ()), ())) else ((laws_markInt64S.f k r6.1.1 (1 : Int)).bind fun r15 => ((laws_heldInt64S.f k r15.2.1 (1 : Int)).bind fun r16 => (bif (decide (r16.1.1 < (0 : Int))) then (some ((false, ()), ())) else (bif (r16.1.1 != r15.1.1) then (some ((false, ()), ())) else ((laws_toInt64S.f k a0).bind fun r17 => ((laws_toInt64S.f k a1).bind fun r18 => ((impl_NetResult.f k r17.1.1 r18.1.1).bind fun r19 => ((laws_eqInt64S.f k r19.1.1 r3.1.1).bind fun r20 => (bif (!r20.1.1) then (some ((false, ()), ())) else (bif (r19.1.2.1 != r3.1.2.1) then (some ((false, ()), ())) else ((laws_heldInt64S.f k r15.2.1 (1 : Int)).bind fun r21 => (bif (decide (r21.1.1 < (0 : Int))) then (some ((false, ()), ())) else (bif (r21.1.1 != r15.1.1) then (some ((false, ()), ())) else (some ((true, ()), ()))))))))))))))))))))))))))))))))))))))
end laws_FnExactNetResult
end Go.Sh
