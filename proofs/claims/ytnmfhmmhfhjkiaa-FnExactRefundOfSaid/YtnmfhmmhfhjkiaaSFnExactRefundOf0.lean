/- For each Go function that the law reaches, a Lean function over plain values, and the rule of each of its loops; conditions: none. -/
import Derived.Test.YtnmfhmmhfhjkiaaPL
noncomputable section
set_option linter.unusedVariables false
namespace Go.Sh
open Go
/-! ### loop.example/g00910/laws.toInt64S -/
namespace laws_toInt64S
def s3 {R : Type} (k : Nat) (rec : (List Int) × Int × (List Int) → Option R) (kx0 : ((List Int) → Option R)) : (List Int) × Int × (List Int) → Option R := fun (x0, x4, y0) =>
  (bif (decide (x4 < ((x0.length : Nat) : Int))) then (bif ((decide (0 ≤ x4)) && (decide (x4 < ((x0.length : Nat) : Int)))) then (bif ((decide (0 ≤ x4)) && (decide (x4 < ((y0.length : Nat) : Int)))) then (bif (decide ((Int.toNat x4) < y0.length)) then (rec (x0, (IntKind.wrap .i64 (x4 + (1 : Int))), (y0.set (Int.toNat x4) (x0.getD (Int.toNat x4) (0 : Int))))) else none) else none) else none) else (kx0 y0))
def l3 {R : Type} (k : Nat) : Nat → (List Int) × Int × (List Int) → ((List Int) → Option R) → Option R
  | 0, _, _ => none
  | n + 1, v, kx0 => s3 k (fun w => l3 k n w kx0) kx0 v
theorem l3_fix {R : Type} {k : Nat} {kx0 : ((List Int) → Option R)} (Inv : ((List Int) × Int × (List Int)) → Prop) (μ : ((List Int) × Int × (List Int)) → Nat) (G : ((List Int) × Int × (List Int)) → Option R) (h : ∀ v rec, Inv v → (∀ w, Inv w → μ w < μ v → rec w = G w) → s3 k rec kx0 v = G v) : ∀ n v, Inv v → μ v < n → l3 k n v kx0 = G v := loop_fix (S := fun rec v => s3 k rec kx0 v) (fun _ _ => rfl) Inv μ G h
theorem l3_for {R : Type} {k : Nat} {kx0 : ((List Int) → Option R)} (N : Nat) (Inv : Nat → ((List Int)) → ((List Int)) → Prop) (G : Nat → ((List Int)) → ((List Int)) → Option R) (h : ∀ (i : Nat) (x0 : (List Int)) (y0 : (List Int)) (rec : (List Int) × Int × (List Int) → Option R), i ≤ N → Inv i x0 y0 → (∀ (x0' : (List Int)) (y0' : (List Int)), i < N → Inv (i + 1) x0' y0' → rec (x0', ((i : Int) + 1), y0') = G (i + 1) x0' y0') → s3 k rec kx0 (x0, (i : Int), y0) = G i x0 y0) : ∀ (n i : Nat) (x0 : (List Int)) (y0 : (List Int)), i ≤ N → Inv i x0 y0 → N - i < n → l3 k n (x0, (i : Int), y0) kx0 = G i x0 y0 := by
  intro n
  induction n with
  | zero => intro i x0 y0 _ _ h0; omega
  | succ n ih =>
    intro i x0 y0 hi hv hn
    exact h i x0 y0 (fun w => l3 k n w kx0) hi hv (fun x0' y0' hlt hv' => ih (i + 1) x0' y0' hlt hv' (by omega))
def f (k : Nat) (a0 : (List Int)) : (Option (((List Int) × Unit) × (Unit))) :=
  (bif ((decide (0 ≤ ((a0.length : Nat) : Int))) && ((decide (((a0.length : Nat) : Int) ≤ ((a0.length : Nat) : Int))) && (decide (((a0.length : Nat) : Int) * ((8 : Nat) : Int) ≤ (AM.maxBytes : Int))))) then (l3 k k (a0, (0 : Int), (List.replicate (Int.toNat ((a0.length : Nat) : Int)) (0 : Int))) (fun o1 => (some ((o1, ()), ())))) else none)
end laws_toInt64S

/-! ### loop.example/g00910/laws.toBoolS -/
namespace laws_toBoolS
def s3 {R : Type} (k : Nat) (rec : (List Bool) × Int × (List Bool) → Option R) (kx0 : ((List Bool) → Option R)) : (List Bool) × Int × (List Bool) → Option R := fun (x0, x4, y0) =>
  (bif (decide (x4 < ((x0.length : Nat) : Int))) then (bif ((decide (0 ≤ x4)) && (decide (x4 < ((x0.length : Nat) : Int)))) then (bif ((decide (0 ≤ x4)) && (decide (x4 < ((y0.length : Nat) : Int)))) then (bif (decide ((Int.toNat x4) < y0.length)) then (rec (x0, (IntKind.wrap .i64 (x4 + (1 : Int))), (y0.set (Int.toNat x4) (x0.getD (Int.toNat x4) false)))) else none) else none) else none) else (kx0 y0))
def l3 {R : Type} (k : Nat) : Nat → (List Bool) × Int × (List Bool) → ((List Bool) → Option R) → Option R
  | 0, _, _ => none
  | n + 1, v, kx0 => s3 k (fun w => l3 k n w kx0) kx0 v
theorem l3_fix {R : Type} {k : Nat} {kx0 : ((List Bool) → Option R)} (Inv : ((List Bool) × Int × (List Bool)) → Prop) (μ : ((List Bool) × Int × (List Bool)) → Nat) (G : ((List Bool) × Int × (List Bool)) → Option R) (h : ∀ v rec, Inv v → (∀ w, Inv w → μ w < μ v → rec w = G w) → s3 k rec kx0 v = G v) : ∀ n v, Inv v → μ v < n → l3 k n v kx0 = G v := loop_fix (S := fun rec v => s3 k rec kx0 v) (fun _ _ => rfl) Inv μ G h
theorem l3_for {R : Type} {k : Nat} {kx0 : ((List Bool) → Option R)} (N : Nat) (Inv : Nat → ((List Bool)) → ((List Bool)) → Prop) (G : Nat → ((List Bool)) → ((List Bool)) → Option R) (h : ∀ (i : Nat) (x0 : (List Bool)) (y0 : (List Bool)) (rec : (List Bool) × Int × (List Bool) → Option R), i ≤ N → Inv i x0 y0 → (∀ (x0' : (List Bool)) (y0' : (List Bool)), i < N → Inv (i + 1) x0' y0' → rec (x0', ((i : Int) + 1), y0') = G (i + 1) x0' y0') → s3 k rec kx0 (x0, (i : Int), y0) = G i x0 y0) : ∀ (n i : Nat) (x0 : (List Bool)) (y0 : (List Bool)), i ≤ N → Inv i x0 y0 → N - i < n → l3 k n (x0, (i : Int), y0) kx0 = G i x0 y0 := by
  intro n
  induction n with
  | zero => intro i x0 y0 _ _ h0; omega
  | succ n ih =>
    intro i x0 y0 hi hv hn
    exact h i x0 y0 (fun w => l3 k n w kx0) hi hv (fun x0' y0' hlt hv' => ih (i + 1) x0' y0' hlt hv' (by omega))
def f (k : Nat) (a0 : (List Bool)) : (Option (((List Bool) × Unit) × (Unit))) :=
  (bif ((decide (0 ≤ ((a0.length : Nat) : Int))) && ((decide (((a0.length : Nat) : Int) ≤ ((a0.length : Nat) : Int))) && (decide (((a0.length : Nat) : Int) * ((1 : Nat) : Int) ≤ (AM.maxBytes : Int))))) then (l3 k k (a0, (0 : Int), (List.replicate (Int.toNat ((a0.length : Nat) : Int)) false)) (fun o1 => (some ((o1, ()), ())))) else none)
end laws_toBoolS

/-! ### loop.example/g00910/laws.eqInt64S -/
namespace laws_eqInt64S
def s4 {R : Type} (k : Nat) (rec : (List Int) × (List Int) × Int → Option R) (kx0 : (Unit → Option R)) (kr : (Bool → Option R)) : (List Int) × (List Int) × Int → Option R := fun (x0, x1, x5) =>
  (bif (decide (x5 < ((x0.length : Nat) : Int))) then (bif ((decide (0 ≤ x5)) && (decide (x5 < ((x0.length : Nat) : Int)))) then (bif ((decide (0 ≤ x5)) && (decide (x5 < ((x1.length : Nat) : Int)))) then (bif ((x0.getD (Int.toNat x5) (0 : Int)) != (x1.getD (Int.toNat x5) (0 : Int))) then (kr false) else (rec (x0, x1, (IntKind.wrap .i64 (x5 + (1 : Int)))))) else none) else none) else (kx0 ()))
def l4 {R : Type} (k : Nat) : Nat → (List Int) × (List Int) × Int → (Unit → Option R) → (Bool → Option R) → Option R
  | 0, _, _, _ => none
  | n + 1, v, kx0, kr => s4 k (fun w => l4 k n w kx0 kr) kx0 kr v
theorem l4_fix {R : Type} {k : Nat} {kx0 : (Unit → Option R)} {kr : (Bool → Option R)} (Inv : ((List Int) × (List Int) × Int) → Prop) (μ : ((List Int) × (List Int) × Int) → Nat) (G : ((List Int) × (List Int) × Int) → Option R) (h : ∀ v rec, Inv v → (∀ w, Inv w → μ w < μ v → rec w = G w) → s4 k rec kx0 kr v = G v) : ∀ n v, Inv v → μ v < n → l4 k n v kx0 kr = G v := loop_fix (S := fun rec v => s4 k rec kx0 kr v) (fun _ _ => rfl) Inv μ G h
theorem l4_for {R : Type} {k : Nat} {kx0 : (Unit → Option R)} {kr : (Bool → Option R)} (N : Nat) (Inv : Nat → ((List Int)) → ((List Int)) → Prop) (G : Nat → ((List Int)) → ((List Int)) → Option R) (h : ∀ (i : Nat) (x0 : (List Int)) (x1 : (List Int)) (rec : (List Int) × (List Int) × Int → Option R), i ≤ N → Inv i x0 x1 → (∀ (x0' : (List Int)) (x1' : (List Int)), i < N → Inv (i + 1) x0' x1' → rec (x0', x1', ((i : Int) + 1)) = G (i + 1) x0' x1') → s4 k rec kx0 kr (x0, x1, (i : Int)) = G i x0 x1) : ∀ (n i : Nat) (x0 : (List Int)) (x1 : (List Int)), i ≤ N → Inv i x0 x1 → N - i < n → l4 k n (x0, x1, (i : Int)) kx0 kr = G i x0 x1 := by
  intro n
  induction n with
  | zero => intro i x0 x1 _ _ h0; omega
  | succ n ih =>
    intro i x0 x1 hi hv hn
    exact h i x0 x1 (fun w => l4 k n w kx0 kr) hi hv (fun x0' x1' hlt hv' => ih (i + 1) x0' x1' hlt hv' (by omega))
def f (k : Nat) (a0 : (List Int)) (a1 : (List Int)) : (Option ((Bool × Unit) × (Unit))) :=
  (bif (((a0.length : Nat) : Int) != ((a1.length : Nat) : Int)) then (some ((false, ()), ())) else (l4 k k (a0, a1, (0 : Int)) (fun (_ : Unit) => (some ((true, ()), ()))) (fun o1 => (some ((o1, ()), ())))))
end laws_eqInt64S

/-! ### loop.example/g00910/laws.eqBoolS -/
namespace laws_eqBoolS
def s4 {R : Type} (k : Nat) (rec : (List Bool) × (List Bool) × Int → Option R) (kx0 : (Unit → Option R)) (kr : (Bool → Option R)) : (List Bool) × (List Bool) × Int → Option R := fun (x0, x1, x5) =>
  (bif (decide (x5 < ((x0.length : Nat) : Int))) then (bif ((decide (0 ≤ x5)) && (decide (x5 < ((x0.length : Nat) : Int)))) then (bif ((decide (0 ≤ x5)) && (decide (x5 < ((x1.length : Nat) : Int)))) then (bif (!((x0.getD (Int.toNat x5) false) == (x1.getD (Int.toNat x5) false))) then (kr false) else (rec (x0, x1, (IntKind.wrap .i64 (x5 + (1 : Int)))))) else none) else none) else (kx0 ()))
def l4 {R : Type} (k : Nat) : Nat → (List Bool) × (List Bool) × Int → (Unit → Option R) → (Bool → Option R) → Option R
  | 0, _, _, _ => none
  | n + 1, v, kx0, kr => s4 k (fun w => l4 k n w kx0 kr) kx0 kr v
theorem l4_fix {R : Type} {k : Nat} {kx0 : (Unit → Option R)} {kr : (Bool → Option R)} (Inv : ((List Bool) × (List Bool) × Int) → Prop) (μ : ((List Bool) × (List Bool) × Int) → Nat) (G : ((List Bool) × (List Bool) × Int) → Option R) (h : ∀ v rec, Inv v → (∀ w, Inv w → μ w < μ v → rec w = G w) → s4 k rec kx0 kr v = G v) : ∀ n v, Inv v → μ v < n → l4 k n v kx0 kr = G v := loop_fix (S := fun rec v => s4 k rec kx0 kr v) (fun _ _ => rfl) Inv μ G h
theorem l4_for {R : Type} {k : Nat} {kx0 : (Unit → Option R)} {kr : (Bool → Option R)} (N : Nat) (Inv : Nat → ((List Bool)) → ((List Bool)) → Prop) (G : Nat → ((List Bool)) → ((List Bool)) → Option R) (h : ∀ (i : Nat) (x0 : (List Bool)) (x1 : (List Bool)) (rec : (List Bool) × (List Bool) × Int → Option R), i ≤ N → Inv i x0 x1 → (∀ (x0' : (List Bool)) (x1' : (List Bool)), i < N → Inv (i + 1) x0' x1' → rec (x0', x1', ((i : Int) + 1)) = G (i + 1) x0' x1') → s4 k rec kx0 kr (x0, x1, (i : Int)) = G i x0 x1) : ∀ (n i : Nat) (x0 : (List Bool)) (x1 : (List Bool)), i ≤ N → Inv i x0 x1 → N - i < n → l4 k n (x0, x1, (i : Int)) kx0 kr = G i x0 x1 := by
  intro n
  induction n with
  | zero => intro i x0 x1 _ _ h0; omega
  | succ n ih =>
    intro i x0 x1 hi hv hn
    exact h i x0 x1 (fun w => l4 k n w kx0 kr) hi hv (fun x0' x1' hlt hv' => ih (i + 1) x0' x1' hlt hv' (by omega))
def f (k : Nat) (a0 : (List Bool)) (a1 : (List Bool)) : (Option ((Bool × Unit) × (Unit))) :=
  (bif (((a0.length : Nat) : Int) != ((a1.length : Nat) : Int)) then (some ((false, ()), ())) else (l4 k k (a0, a1, (0 : Int)) (fun (_ : Unit) => (some ((true, ()), ()))) (fun o1 => (some ((o1, ()), ())))))
end laws_eqBoolS

/-! ### loop.example/g00910/laws.markInt64S -/
namespace laws_markInt64S
def s2 {R : Type} (k : Nat) (rec : Int × Int × (List Int) → Option R) (kx0 : (Int × (List Int) → Option R)) : Int × Int × (List Int) → Option R := fun (x1, x5, y0) =>
  (bif (decide (x5 < ((y0.length : Nat) : Int))) then (bif ((decide (0 ≤ x5)) && (decide (x5 < ((y0.length : Nat) : Int)))) then (bif (decide ((Int.toNat x5) < y0.length)) then (rec ((IntKind.wrap .i64 (x1 + (1 : Int))), (IntKind.wrap .i64 (x5 + (1 : Int))), (y0.set (Int.toNat x5) x1))) else none) else none) else (kx0 (x1, y0)))
def l2 {R : Type} (k : Nat) : Nat → Int × Int × (List Int) → (Int × (List Int) → Option R) → Option R
  | 0, _, _ => none
  | n + 1, v, kx0 => s2 k (fun w => l2 k n w kx0) kx0 v
theorem l2_fix {R : Type} {k : Nat} {kx0 : (Int × (List Int) → Option R)} (Inv : (Int × Int × (List Int)) → Prop) (μ : (Int × Int × (List Int)) → Nat) (G : (Int × Int × (List Int)) → Option R) (h : ∀ v rec, Inv v → (∀ w, Inv w → μ w < μ v → rec w = G w) → s2 k rec kx0 v = G v) : ∀ n v, Inv v → μ v < n → l2 k n v kx0 = G v := loop_fix (S := fun rec v => s2 k rec kx0 v) (fun _ _ => rfl) Inv μ G h
theorem l2_for {R : Type} {k : Nat} {kx0 : (Int × (List Int) → Option R)} (N : Nat) (Inv : Nat → (Int) → ((List Int)) → Prop) (G : Nat → (Int) → ((List Int)) → Option R) (h : ∀ (i : Nat) (x1 : Int) (y0 : (List Int)) (rec : Int × Int × (List Int) → Option R), i ≤ N → Inv i x1 y0 → (∀ (x1' : Int) (y0' : (List Int)), i < N → Inv (i + 1) x1' y0' → rec (x1', ((i : Int) + 1), y0') = G (i + 1) x1' y0') → s2 k rec kx0 (x1, (i : Int), y0) = G i x1 y0) : ∀ (n i : Nat) (x1 : Int) (y0 : (List Int)), i ≤ N → Inv i x1 y0 → N - i < n → l2 k n (x1, (i : Int), y0) kx0 = G i x1 y0 := by
  intro n
  induction n with
  | zero => intro i x1 y0 _ _ h0; omega
  | succ n ih =>
    intro i x1 y0 hi hv hn
    exact h i x1 y0 (fun w => l2 k n w kx0) hi hv (fun x1' y0' hlt hv' => ih (i + 1) x1' y0' hlt hv' (by omega))
def f (k : Nat) (a0 : (List Int)) (a1 : Int) : (Option ((Int × Unit) × ((List Int) × Unit))) :=
  (l2 k k (a1, (0 : Int), a0) (fun (o1, o2) => (some ((o1, ()), (o2, ())))))
end laws_markInt64S

/-! ### loop.example/g00910/laws.heldInt64S -/
namespace laws_heldInt64S
def s2 {R : Type} (k : Nat) (rec : (List Int) × Int × Int → Option R) (kx0 : (Int → Option R)) (kr : (Int × Int → Option R)) : (List Int) × Int × Int → Option R := fun (x0, x1, x5) =>
  (bif (decide (x5 < ((x0.length : Nat) : Int))) then (bif ((decide (0 ≤ x5)) && (decide (x5 < ((x0.length : Nat) : Int)))) then (bif ((x0.getD (Int.toNat x5) (0 : Int)) != x1) then (kr (x1, (-1 : Int))) else (rec (x0, (IntKind.wrap .i64 (x1 + (1 : Int))), (IntKind.wrap .i64 (x5 + (1 : Int)))))) else none) else (kx0 x1))
def l2 {R : Type} (k : Nat) : Nat → (List Int) × Int × Int → (Int → Option R) → (Int × Int → Option R) → Option R
  | 0, _, _, _ => none
  | n + 1, v, kx0, kr => s2 k (fun w => l2 k n w kx0 kr) kx0 kr v
theorem l2_fix {R : Type} {k : Nat} {kx0 : (Int → Option R)} {kr : (Int × Int → Option R)} (Inv : ((List Int) × Int × Int) → Prop) (μ : ((List Int) × Int × Int) → Nat) (G : ((List Int) × Int × Int) → Option R) (h : ∀ v rec, Inv v → (∀ w, Inv w → μ w < μ v → rec w = G w) → s2 k rec kx0 kr v = G v) : ∀ n v, Inv v → μ v < n → l2 k n v kx0 kr = G v := loop_fix (S := fun rec v => s2 k rec kx0 kr v) (fun _ _ => rfl) Inv μ G h
theorem l2_for {R : Type} {k : Nat} {kx0 : (Int → Option R)} {kr : (Int × Int → Option R)} (N : Nat) (Inv : Nat → ((List Int)) → (Int) → Prop) (G : Nat → ((List Int)) → (Int) → Option R) (h : ∀ (i : Nat) (x0 : (List Int)) (x1 : Int) (rec : (List Int) × Int × Int → Option R), i ≤ N → Inv i x0 x1 → (∀ (x0' : (List Int)) (x1' : Int), i < N → Inv (i + 1) x0' x1' → rec (x0', x1', ((i : Int) + 1)) = G (i + 1) x0' x1') → s2 k rec kx0 kr (x0, x1, (i : Int)) = G i x0 x1) : ∀ (n i : Nat) (x0 : (List Int)) (x1 : Int), i ≤ N → Inv i x0 x1 → N - i < n → l2 k n (x0, x1, (i : Int)) kx0 kr = G i x0 x1 := by
  intro n
  induction n with
  | zero => intro i x0 x1 _ _ h0; omega
  | succ n ih =>
    intro i x0 x1 hi hv hn
    exact h i x0 x1 (fun w => l2 k n w kx0 kr) hi hv (fun x0' x1' hlt hv' => ih (i + 1) x0' x1' hlt hv' (by omega))
def f (k : Nat) (a0 : (List Int)) (a1 : Int) : (Option ((Int × Unit) × (Unit))) :=
  (l2 k k (a0, a1, (0 : Int)) (fun o1 => (some ((o1, ()), ()))) (fun (o2, o3) => (some ((o3, ()), ()))))
end laws_heldInt64S

/-! ### loop.example/g00910/spec.l01In -/
namespace spec_l01In
def f (k : Nat) (a0 : Int) (a1 : Int) (a2 : Int) : (Option ((Bool × Unit) × (Unit))) :=
  (bif (decide (a0 ≥ a1)) then (some (((decide (a0 ≤ a2)), ()), ())) else (some ((false, ()), ())))
end spec_l01In

/-! ### loop.example/g00910/spec.l10Chips -/
namespace spec_l10Chips
def s2 {R : Type} (k : Nat) (rec : (List Int) × Int × Int → Option R) (kx0 : ((List Int) × Int → Option R)) (kr : ((List Int) × Int × Bool → Option R)) : (List Int) × Int × Int → Option R := fun (x0, x1, x5) =>
  (bif (decide (x5 < ((x0.length : Nat) : Int))) then (bif ((decide (0 ≤ x5)) && (decide (x5 < ((x0.length : Nat) : Int)))) then ((spec_l01In.f k (x0.getD (Int.toNat x5) (0 : Int)) (0 : Int) (600000 : Int)).bind fun r1 => (bif (!r1.1.1) then (kr (x0, x1, false)) else (rec (x0, x1, (IntKind.wrap .i64 (x5 + (1 : Int))))))) else none) else (kx0 (x0, x1)))
def l2 {R : Type} (k : Nat) : Nat → (List Int) × Int × Int → ((List Int) × Int → Option R) → ((List Int) × Int × Bool → Option R) → Option R
  | 0, _, _, _ => none
  | n + 1, v, kx0, kr => s2 k (fun w => l2 k n w kx0 kr) kx0 kr v
theorem l2_fix {R : Type} {k : Nat} {kx0 : ((List Int) × Int → Option R)} {kr : ((List Int) × Int × Bool → Option R)} (Inv : ((List Int) × Int × Int) → Prop) (μ : ((List Int) × Int × Int) → Nat) (G : ((List Int) × Int × Int) → Option R) (h : ∀ v rec, Inv v → (∀ w, Inv w → μ w < μ v → rec w = G w) → s2 k rec kx0 kr v = G v) : ∀ n v, Inv v → μ v < n → l2 k n v kx0 kr = G v := loop_fix (S := fun rec v => s2 k rec kx0 kr v) (fun _ _ => rfl) Inv μ G h
theorem l2_for {R : Type} {k : Nat} {kx0 : ((List Int) × Int → Option R)} {kr : ((List Int) × Int × Bool → Option R)} (N : Nat) (Inv : Nat → ((List Int)) → (Int) → Prop) (G : Nat → ((List Int)) → (Int) → Option R) (h : ∀ (i : Nat) (x0 : (List Int)) (x1 : Int) (rec : (List Int) × Int × Int → Option R), i ≤ N → Inv i x0 x1 → (∀ (x0' : (List Int)) (x1' : Int), i < N → Inv (i + 1) x0' x1' → rec (x0', x1', ((i : Int) + 1)) = G (i + 1) x0' x1') → s2 k rec kx0 kr (x0, x1, (i : Int)) = G i x0 x1) : ∀ (n i : Nat) (x0 : (List Int)) (x1 : Int), i ≤ N → Inv i x0 x1 → N - i < n → l2 k n (x0, x1, (i : Int)) kx0 kr = G i x0 x1 := by
  intro n
  induction n with
  | zero => intro i x0 x1 _ _ h0; omega
  | succ n ih =>
    intro i x0 x1 hi hv hn
    exact h i x0 x1 (fun w => l2 k n w kx0 kr) hi hv (fun x0' x1' hlt hv' => ih (i + 1) x0' x1' hlt hv' (by omega))
def f (k : Nat) (a0 : (List Int)) (a1 : Int) : (Option ((Bool × Unit) × (Unit))) :=
  (l2 k k (a0, a1, (0 : Int)) (fun (o2, o3) => (some (((((o2.length : Nat) : Int) == o3), ()), ()))) (fun (o4, o5, o6) => (some ((o6, ()), ()))))
end spec_l10Chips

/-! ### loop.example/g00910/spec.ArePayments -/
namespace spec_ArePayments
def s4 {R : Type} (k : Nat) (rec : (List Int) × (List Bool) × Int → Option R) (kx0 : (Unit → Option R)) (kr : (Bool → Option R)) : (List Int) × (List Bool) × Int → Option R := fun (x0, x1, x5) =>
  (bif (decide (x5 < ((x0.length : Nat) : Int))) then (bif ((decide (0 ≤ x5)) && (decide (x5 < ((x1.length : Nat) : Int)))) then (bif (!(x1.getD (Int.toNat x5) false)) then (bif ((decide (0 ≤ x5)) && (decide (x5 < ((x0.length : Nat) : Int)))) then (bif (decide ((x0.getD (Int.toNat x5) (0 : Int)) > (0 : Int))) then (kr true) else (rec (x0, x1, (IntKind.wrap .i64 (x5 + (1 : Int)))))) else none) else (rec (x0, x1, (IntKind.wrap .i64 (x5 + (1 : Int)))))) else none) else (kx0 ()))
def l4 {R : Type} (k : Nat) : Nat → (List Int) × (List Bool) × Int → (Unit → Option R) → (Bool → Option R) → Option R
  | 0, _, _, _ => none
  | n + 1, v, kx0, kr => s4 k (fun w => l4 k n w kx0 kr) kx0 kr v
theorem l4_fix {R : Type} {k : Nat} {kx0 : (Unit → Option R)} {kr : (Bool → Option R)} (Inv : ((List Int) × (List Bool) × Int) → Prop) (μ : ((List Int) × (List Bool) × Int) → Nat) (G : ((List Int) × (List Bool) × Int) → Option R) (h : ∀ v rec, Inv v → (∀ w, Inv w → μ w < μ v → rec w = G w) → s4 k rec kx0 kr v = G v) : ∀ n v, Inv v → μ v < n → l4 k n v kx0 kr = G v := loop_fix (S := fun rec v => s4 k rec kx0 kr v) (fun _ _ => rfl) Inv μ G h
theorem l4_for {R : Type} {k : Nat} {kx0 : (Unit → Option R)} {kr : (Bool → Option R)} (N : Nat) (Inv : Nat → ((List Int)) → ((List Bool)) → Prop) (G : Nat → ((List Int)) → ((List Bool)) → Option R) (h : ∀ (i : Nat) (x0 : (List Int)) (x1 : (List Bool)) (rec : (List Int) × (List Bool) × Int → Option R), i ≤ N → Inv i x0 x1 → (∀ (x0' : (List Int)) (x1' : (List Bool)), i < N → Inv (i + 1) x0' x1' → rec (x0', x1', ((i : Int) + 1)) = G (i + 1) x0' x1') → s4 k rec kx0 kr (x0, x1, (i : Int)) = G i x0 x1) : ∀ (n i : Nat) (x0 : (List Int)) (x1 : (List Bool)), i ≤ N → Inv i x0 x1 → N - i < n → l4 k n (x0, x1, (i : Int)) kx0 kr = G i x0 x1 := by
  intro n
  induction n with
  | zero => intro i x0 x1 _ _ h0; omega
  | succ n ih =>
    intro i x0 x1 hi hv hn
    exact h i x0 x1 (fun w => l4 k n w kx0 kr) hi hv (fun x0' x1' hlt hv' => ih (i + 1) x0' x1' hlt hv' (by omega))
def f (k : Nat) (a0 : (List Int)) (a1 : (List Bool)) : (Option ((Bool × Unit) × (Unit))) :=
  ((spec_l01In.f k ((a0.length : Nat) : Int) (2 : Int) (6 : Int)).bind fun r1 => (bif (!r1.1.1) then (some ((false, ()), ())) else ((spec_l10Chips.f k a0 ((a1.length : Nat) : Int)).bind fun r2 => (bif (!r2.1.1) then (some ((false, ()), ())) else (l4 k k (a0, a1, (0 : Int)) (fun (_ : Unit) => (some ((false, ()), ()))) (fun o3 => (some ((o3, ()), ()))))))))
end spec_ArePayments

/-! ### loop.example/g00910/spec.l12Uncalled -/
namespace spec_l12Uncalled
def s3 {R : Type} (k : Nat) (rec : (List Int) × Int × Int → Option R) (kx0 : ((List Int) × Int → Option R)) : (List Int) × Int × Int → Option R := fun (x0, x4, x5) =>
  (bif (decide (x5 < ((x0.length : Nat) : Int))) then (bif ((decide (0 ≤ x5)) && (decide (x5 < ((x0.length : Nat) : Int)))) then (bif ((decide (0 ≤ x4)) && (decide (x4 < ((x0.length : Nat) : Int)))) then (bif (decide ((x0.getD (Int.toNat x5) (0 : Int)) > (x0.getD (Int.toNat x4) (0 : Int)))) then (rec (x0, x5, (IntKind.wrap .i64 (x5 + (1 : Int))))) else (rec (x0, x4, (IntKind.wrap .i64 (x5 + (1 : Int)))))) else none) else none) else (kx0 (x0, x4)))
def l3 {R : Type} (k : Nat) : Nat → (List Int) × Int × Int → ((List Int) × Int → Option R) → Option R
  | 0, _, _ => none
  | n + 1, v, kx0 => s3 k (fun w => l3 k n w kx0) kx0 v
theorem l3_fix {R : Type} {k : Nat} {kx0 : ((List Int) × Int → Option R)} (Inv : ((List Int) × Int × Int) → Prop) (μ : ((List Int) × Int × Int) → Nat) (G : ((List Int) × Int × Int) → Option R) (h : ∀ v rec, Inv v → (∀ w, Inv w → μ w < μ v → rec w = G w) → s3 k rec kx0 v = G v) : ∀ n v, Inv v → μ v < n → l3 k n v kx0 = G v := loop_fix (S := fun rec v => s3 k rec kx0 v) (fun _ _ => rfl) Inv μ G h
theorem l3_for {R : Type} {k : Nat} {kx0 : ((List Int) × Int → Option R)} (N : Nat) (Inv : Nat → ((List Int)) → (Int) → Prop) (G : Nat → ((List Int)) → (Int) → Option R) (h : ∀ (i : Nat) (x0 : (List Int)) (x4 : Int) (rec : (List Int) × Int × Int → Option R), i ≤ N → Inv i x0 x4 → (∀ (x0' : (List Int)) (x4' : Int), i < N → Inv (i + 1) x0' x4' → rec (x0', x4', ((i : Int) + 1)) = G (i + 1) x0' x4') → s3 k rec kx0 (x0, x4, (i : Int)) = G i x0 x4) : ∀ (n i : Nat) (x0 : (List Int)) (x4 : Int), i ≤ N → Inv i x0 x4 → N - i < n → l3 k n (x0, x4, (i : Int)) kx0 = G i x0 x4 := by
  intro n
  induction n with
  | zero => intro i x0 x4 _ _ h0; omega
  | succ n ih =>
    intro i x0 x4 hi hv hn
    exact h i x0 x4 (fun w => l3 k n w kx0) hi hv (fun x0' x4' hlt hv' => ih (i + 1) x0' x4' hlt hv' (by omega))
def s9 {R : Type} (k : Nat) (rec : (List Int) × Int × Int × Int → Option R) (kx2 : ((List Int) × Int × Int → Option R)) : (List Int) × Int × Int × Int → Option R := fun (x0, x4, x6, x7) =>
  (bif (decide (x7 < ((x0.length : Nat) : Int))) then (bif (x7 != x4) then (bif ((decide (0 ≤ x7)) && (decide (x7 < ((x0.length : Nat) : Int)))) then (rec (x0, x4, (if (x0.getD (Int.toNat x7) (0 : Int)) > x6 then (x0.getD (Int.toNat x7) (0 : Int)) else x6), (IntKind.wrap .i64 (x7 + (1 : Int))))) else none) else (rec (x0, x4, x6, (IntKind.wrap .i64 (x7 + (1 : Int)))))) else (kx2 (x0, x4, x6)))
def l9 {R : Type} (k : Nat) : Nat → (List Int) × Int × Int × Int → ((List Int) × Int × Int → Option R) → Option R
  | 0, _, _ => none
  | n + 1, v, kx2 => s9 k (fun w => l9 k n w kx2) kx2 v
theorem l9_fix {R : Type} {k : Nat} {kx2 : ((List Int) × Int × Int → Option R)} (Inv : ((List Int) × Int × Int × Int) → Prop) (μ : ((List Int) × Int × Int × Int) → Nat) (G : ((List Int) × Int × Int × Int) → Option R) (h : ∀ v rec, Inv v → (∀ w, Inv w → μ w < μ v → rec w = G w) → s9 k rec kx2 v = G v) : ∀ n v, Inv v → μ v < n → l9 k n v kx2 = G v := loop_fix (S := fun rec v => s9 k rec kx2 v) (fun _ _ => rfl) Inv μ G h
theorem l9_for {R : Type} {k : Nat} {kx2 : ((List Int) × Int × Int → Option R)} (N : Nat) (Inv : Nat → ((List Int)) → (Int) → (Int) → Prop) (G : Nat → ((List Int)) → (Int) → (Int) → Option R) (h : ∀ (i : Nat) (x0 : (List Int)) (x4 : Int) (x6 : Int) (rec : (List Int) × Int × Int × Int → Option R), i ≤ N → Inv i x0 x4 x6 → (∀ (x0' : (List Int)) (x4' : Int) (x6' : Int), i < N → Inv (i + 1) x0' x4' x6' → rec (x0', x4', x6', ((i : Int) + 1)) = G (i + 1) x0' x4' x6') → s9 k rec kx2 (x0, x4, x6, (i : Int)) = G i x0 x4 x6) : ∀ (n i : Nat) (x0 : (List Int)) (x4 : Int) (x6 : Int), i ≤ N → Inv i x0 x4 x6 → N - i < n → l9 k n (x0, x4, x6, (i : Int)) kx2 = G i x0 x4 x6 := by
  intro n
  induction n with
  | zero => intro i x0 x4 x6 _ _ h0; omega
  | succ n ih =>
    intro i x0 x4 x6 hi hv hn
    exact h i x0 x4 x6 (fun w => l9 k n w kx2) hi hv (fun x0' x4' x6' hlt hv' => ih (i + 1) x0' x4' x6' hlt hv' (by omega))
def f (k : Nat) (a0 : (List Int)) : (Option ((Int × Int × Unit) × (Unit))) :=
  (l3 k k (a0, (0 : Int), (1 : Int)) (fun (o1, o2) => (l9 k k (o1, o2, (0 : Int), (0 : Int)) (fun (o3, o4, o5) => (bif ((decide (0 ≤ o4)) && (decide (o4 < ((o3.length : Nat) : Int)))) then (bif ((o3.getD (Int.toNat o4) (0 : Int)) == o5) then (some (((0 : Int), ((0 : Int), ())), ())) else (bif ((decide (0 ≤ o4)) && (decide (o4 < ((o3.length : Nat) : Int)))) then (some ((o4, ((IntKind.wrap .i64 ((o3.getD (Int.toNat o4) (0 : Int)) - o5)), ())), ())) else none)) else none)))))
end spec_l12Uncalled

/-! ### loop.example/g00910/spec.l01Own -/
namespace spec_l01Own
def f (k : Nat) (a0 : (List Int)) : (Option (((List Int) × Unit) × (Unit))) :=
  (bif (decide ((([] : List Int).length + a0.length) * 8 ≤ AM.maxBytes)) then (some (((([] : List Int) ++ a0), ()), ())) else none)
end spec_l01Own

/-! ### loop.example/g00910/spec.l12Refund -/
namespace spec_l12Refund
def f (k : Nat) (a0 : (List Int)) : (Option (((List Int) × Unit) × (Unit))) :=
  ((spec_l01Own.f k a0).bind fun r1 => ((spec_l12Uncalled.f k a0).bind fun r2 => (bif ((decide (0 ≤ r2.1.1)) && (decide (r2.1.1 < ((r1.1.1.length : Nat) : Int)))) then (bif (decide ((Int.toNat r2.1.1) < r1.1.1.length)) then (bif ((decide (0 ≤ r2.1.1)) && (decide (r2.1.1 < ((r1.1.1.length : Nat) : Int)))) then (bif (decide ((Int.toNat r2.1.1) < r1.1.1.length)) then (some (((r1.1.1.set (Int.toNat r2.1.1) (IntKind.wrap .i64 ((r1.1.1.getD (Int.toNat r2.1.1) (0 : Int)) - r2.1.2.1))), ()), ())) else none) else none) else none) else none)))
end spec_l12Refund

/-! ### loop.example/g00910/spec.RefundOf -/
namespace spec_RefundOf
def f (k : Nat) (a0 : (List Int)) (a1 : (List Bool)) : (Option (((List Int) × Int × Unit) × (Unit))) :=
  ((spec_ArePayments.f k a0 a1).bind fun r1 => (bif (!r1.1.1) then (some ((([] : List Int), ((1 : Int), ())), ())) else ((spec_l12Refund.f k a0).bind fun r2 => (some ((r2.1.1, ((0 : Int), ())), ())))))
end spec_RefundOf

/-! ### loop.example/g00910/impl.within -/
namespace impl_within
def f (k : Nat) (a0 : Int) (a1 : Int) (a2 : Int) : (Option ((Bool × Unit) × (Unit))) :=
  (bif (decide (a0 ≥ a1)) then (some (((decide (a0 ≤ a2)), ()), ())) else (some ((false, ()), ())))
end impl_within

/-! ### loop.example/g00910/impl.allWithin -/
namespace impl_allWithin
def s2 {R : Type} (k : Nat) (rec : Int × Int × (List Int) × Int × Int → Option R) (kx0 : (Unit → Option R)) (kr : (Bool → Option R)) : Int × Int × (List Int) × Int × Int → Option R := fun (x1, x2, x9, x10, x11) =>
  (bif (decide (x11 < x10)) then (bif ((decide (0 ≤ x11)) && (decide (x11 < ((x9.length : Nat) : Int)))) then ((impl_within.f k (x9.getD (Int.toNat x11) (0 : Int)) x1 x2).bind fun r1 => (bif (!r1.1.1) then (kr false) else (rec (x1, x2, x9, x10, (IntKind.wrap .i64 (x11 + (1 : Int))))))) else none) else (kx0 ()))
def l2 {R : Type} (k : Nat) : Nat → Int × Int × (List Int) × Int × Int → (Unit → Option R) → (Bool → Option R) → Option R
  | 0, _, _, _ => none
  | n + 1, v, kx0, kr => s2 k (fun w => l2 k n w kx0 kr) kx0 kr v
theorem l2_fix {R : Type} {k : Nat} {kx0 : (Unit → Option R)} {kr : (Bool → Option R)} (Inv : (Int × Int × (List Int) × Int × Int) → Prop) (μ : (Int × Int × (List Int) × Int × Int) → Nat) (G : (Int × Int × (List Int) × Int × Int) → Option R) (h : ∀ v rec, Inv v → (∀ w, Inv w → μ w < μ v → rec w = G w) → s2 k rec kx0 kr v = G v) : ∀ n v, Inv v → μ v < n → l2 k n v kx0 kr = G v := loop_fix (S := fun rec v => s2 k rec kx0 kr v) (fun _ _ => rfl) Inv μ G h
theorem l2_for {R : Type} {k : Nat} {kx0 : (Unit → Option R)} {kr : (Bool → Option R)} (N : Nat) (Inv : Nat → (Int) → (Int) → ((List Int)) → (Int) → Prop) (G : Nat → (Int) → (Int) → ((List Int)) → (Int) → Option R) (h : ∀ (i : Nat) (x1 : Int) (x2 : Int) (x9 : (List Int)) (x10 : Int) (rec : Int × Int × (List Int) × Int × Int → Option R), i ≤ N → Inv i x1 x2 x9 x10 → (∀ (x1' : Int) (x2' : Int) (x9' : (List Int)) (x10' : Int), i < N → Inv (i + 1) x1' x2' x9' x10' → rec (x1', x2', x9', x10', ((i : Int) + 1)) = G (i + 1) x1' x2' x9' x10') → s2 k rec kx0 kr (x1, x2, x9, x10, (i : Int)) = G i x1 x2 x9 x10) : ∀ (n i : Nat) (x1 : Int) (x2 : Int) (x9 : (List Int)) (x10 : Int), i ≤ N → Inv i x1 x2 x9 x10 → N - i < n → l2 k n (x1, x2, x9, x10, (i : Int)) kx0 kr = G i x1 x2 x9 x10 := by
  intro n
  induction n with
  | zero => intro i x1 x2 x9 x10 _ _ h0; omega
  | succ n ih =>
    intro i x1 x2 x9 x10 hi hv hn
    exact h i x1 x2 x9 x10 (fun w => l2 k n w kx0 kr) hi hv (fun x1' x2' x9' x10' hlt hv' => ih (i + 1) x1' x2' x9' x10' hlt hv' (by omega))
def f (k : Nat) (a0 : (List Int)) (a1 : Int) (a2 : Int) : (Option ((Bool × Unit) × (Unit))) :=
  (l2 k k (a1, a2, a0, ((a0.length : Nat) : Int), (0 : Int)) (fun (_ : Unit) => (some ((true, ()), ()))) (fun o2 => (some ((o2, ()), ()))))
end impl_allWithin

/-! ### loop.example/g00910/impl.ArePayments -/
namespace impl_ArePayments
def s4 {R : Type} (k : Nat) (rec : (List Bool) × (List Int) × Int × Int → Option R) (kx0 : (Unit → Option R)) (kr : (Bool → Option R)) : (List Bool) × (List Int) × Int × Int → Option R := fun (x1, x23, x24, x25) =>
  (bif (decide (x25 < x24)) then (bif ((decide (0 ≤ x25)) && (decide (x25 < ((x23.length : Nat) : Int)))) then (bif ((decide (0 ≤ x25)) && (decide (x25 < ((x1.length : Nat) : Int)))) then (bif (!(x1.getD (Int.toNat x25) false)) then (bif (decide ((x23.getD (Int.toNat x25) (0 : Int)) > (0 : Int))) then (kr true) else (rec (x1, x23, x24, (IntKind.wrap .i64 (x25 + (1 : Int)))))) else (rec (x1, x23, x24, (IntKind.wrap .i64 (x25 + (1 : Int)))))) else none) else none) else (kx0 ()))
def l4 {R : Type} (k : Nat) : Nat → (List Bool) × (List Int) × Int × Int → (Unit → Option R) → (Bool → Option R) → Option R
  | 0, _, _, _ => none
  | n + 1, v, kx0, kr => s4 k (fun w => l4 k n w kx0 kr) kx0 kr v
theorem l4_fix {R : Type} {k : Nat} {kx0 : (Unit → Option R)} {kr : (Bool → Option R)} (Inv : ((List Bool) × (List Int) × Int × Int) → Prop) (μ : ((List Bool) × (List Int) × Int × Int) → Nat) (G : ((List Bool) × (List Int) × Int × Int) → Option R) (h : ∀ v rec, Inv v → (∀ w, Inv w → μ w < μ v → rec w = G w) → s4 k rec kx0 kr v = G v) : ∀ n v, Inv v → μ v < n → l4 k n v kx0 kr = G v := loop_fix (S := fun rec v => s4 k rec kx0 kr v) (fun _ _ => rfl) Inv μ G h
theorem l4_for {R : Type} {k : Nat} {kx0 : (Unit → Option R)} {kr : (Bool → Option R)} (N : Nat) (Inv : Nat → ((List Bool)) → ((List Int)) → (Int) → Prop) (G : Nat → ((List Bool)) → ((List Int)) → (Int) → Option R) (h : ∀ (i : Nat) (x1 : (List Bool)) (x23 : (List Int)) (x24 : Int) (rec : (List Bool) × (List Int) × Int × Int → Option R), i ≤ N → Inv i x1 x23 x24 → (∀ (x1' : (List Bool)) (x23' : (List Int)) (x24' : Int), i < N → Inv (i + 1) x1' x23' x24' → rec (x1', x23', x24', ((i : Int) + 1)) = G (i + 1) x1' x23' x24') → s4 k rec kx0 kr (x1, x23, x24, (i : Int)) = G i x1 x23 x24) : ∀ (n i : Nat) (x1 : (List Bool)) (x23 : (List Int)) (x24 : Int), i ≤ N → Inv i x1 x23 x24 → N - i < n → l4 k n (x1, x23, x24, (i : Int)) kx0 kr = G i x1 x23 x24 := by
  intro n
  induction n with
  | zero => intro i x1 x23 x24 _ _ h0; omega
  | succ n ih =>
    intro i x1 x23 x24 hi hv hn
    exact h i x1 x23 x24 (fun w => l4 k n w kx0 kr) hi hv (fun x1' x23' x24' hlt hv' => ih (i + 1) x1' x23' x24' hlt hv' (by omega))
def f (k : Nat) (a0 : (List Int)) (a1 : (List Bool)) : (Option ((Bool × Unit) × (Unit))) :=
  ((impl_within.f k ((a0.length : Nat) : Int) (2 : Int) (6 : Int)).bind fun r1 => (bif (!r1.1.1) then (some ((false, ()), ())) else (bif (((a1.length : Nat) : Int) != ((a0.length : Nat) : Int)) then (some ((false, ()), ())) else ((impl_allWithin.f k a0 (0 : Int) (600000 : Int)).bind fun r2 => (bif (!r2.1.1) then (some ((false, ()), ())) else (l4 k k (a1, a0, ((a0.length : Nat) : Int), (0 : Int)) (fun (_ : Unit) => (some ((false, ()), ()))) (fun o3 => (some ((o3, ()), ())))))))))
end impl_ArePayments

/-! ### slices.Clone[[]int64,int64] -/
namespace slices_Clone_int64_int64
def f (k : Nat) (a0 : (List Int)) : (Option (((List Int) × Unit) × (Unit))) :=
  (bif (decide (0 < a0.length)) then (bif (decide ((([] : List Int).length + a0.length) * 8 ≤ AM.maxBytes)) then (some (((([] : List Int) ++ a0), ()), ())) else none) else (AM.both (some ((([] : List Int), ()), ())) (bif (decide ((([] : List Int).length + a0.length) * 8 ≤ AM.maxBytes)) then (some (((([] : List Int) ++ a0), ()), ())) else none)))
end slices_Clone_int64_int64

/-! ### slices.Max[[]int64,int64] -/
namespace slices_Max_int64_int64
def s5 {R : Type} (k : Nat) (rec : (List Int) × Int × Int → Option R) (kx0 : (Int → Option R)) : (List Int) × Int × Int → Option R := fun (x0, x3, x4) =>
  (bif (decide (x4 < ((x0.length : Nat) : Int))) then (bif ((decide (0 ≤ x4)) && (decide (x4 < ((x0.length : Nat) : Int)))) then (rec (x0, (if (x0.getD (Int.toNat x4) (0 : Int)) > x3 then (x0.getD (Int.toNat x4) (0 : Int)) else x3), (IntKind.wrap .i64 (x4 + (1 : Int))))) else none) else (kx0 x3))
def l5 {R : Type} (k : Nat) : Nat → (List Int) × Int × Int → (Int → Option R) → Option R
  | 0, _, _ => none
  | n + 1, v, kx0 => s5 k (fun w => l5 k n w kx0) kx0 v
theorem l5_fix {R : Type} {k : Nat} {kx0 : (Int → Option R)} (Inv : ((List Int) × Int × Int) → Prop) (μ : ((List Int) × Int × Int) → Nat) (G : ((List Int) × Int × Int) → Option R) (h : ∀ v rec, Inv v → (∀ w, Inv w → μ w < μ v → rec w = G w) → s5 k rec kx0 v = G v) : ∀ n v, Inv v → μ v < n → l5 k n v kx0 = G v := loop_fix (S := fun rec v => s5 k rec kx0 v) (fun _ _ => rfl) Inv μ G h
theorem l5_for {R : Type} {k : Nat} {kx0 : (Int → Option R)} (N : Nat) (Inv : Nat → ((List Int)) → (Int) → Prop) (G : Nat → ((List Int)) → (Int) → Option R) (h : ∀ (i : Nat) (x0 : (List Int)) (x3 : Int) (rec : (List Int) × Int × Int → Option R), i ≤ N → Inv i x0 x3 → (∀ (x0' : (List Int)) (x3' : Int), i < N → Inv (i + 1) x0' x3' → rec (x0', x3', ((i : Int) + 1)) = G (i + 1) x0' x3') → s5 k rec kx0 (x0, x3, (i : Int)) = G i x0 x3) : ∀ (n i : Nat) (x0 : (List Int)) (x3 : Int), i ≤ N → Inv i x0 x3 → N - i < n → l5 k n (x0, x3, (i : Int)) kx0 = G i x0 x3 := by
  intro n
  induction n with
  | zero => intro i x0 x3 _ _ h0; omega
  | succ n ih =>
    intro i x0 x3 hi hv hn
    exact h i x0 x3 (fun w => l5 k n w kx0) hi hv (fun x0' x3' hlt hv' => ih (i + 1) x0' x3' hlt hv' (by omega))
def f (k : Nat) (a0 : (List Int)) : (Option ((Int × Unit) × (Unit))) :=
  (bif (decide (((a0.length : Nat) : Int) < (1 : Int))) then none else (bif ((decide (0 ≤ (0 : Int))) && (decide ((0 : Int) < ((a0.length : Nat) : Int)))) then (l5 k k (a0, (a0.getD 0 (0 : Int)), (1 : Int)) (fun o1 => (some ((o1, ()), ())))) else none))
end slices_Max_int64_int64

/-! ### slices.Index[[]int64,int64] -/
namespace slices_Index_int64_int64
def s2 {R : Type} (k : Nat) (rec : (List Int) × Int × Int × Int → Option R) (kx0 : (Unit → Option R)) (kr : (Int → Option R)) : (List Int) × Int × Int × Int → Option R := fun (x0, x1, x7, x8) =>
  (bif (decide (x8 < x7)) then (bif ((decide (0 ≤ x8)) && (decide (x8 < ((x0.length : Nat) : Int)))) then (bif (x1 == (x0.getD (Int.toNat x8) (0 : Int))) then (kr x8) else (rec (x0, x1, x7, (IntKind.wrap .i64 (x8 + (1 : Int)))))) else none) else (kx0 ()))
def l2 {R : Type} (k : Nat) : Nat → (List Int) × Int × Int × Int → (Unit → Option R) → (Int → Option R) → Option R
  | 0, _, _, _ => none
  | n + 1, v, kx0, kr => s2 k (fun w => l2 k n w kx0 kr) kx0 kr v
theorem l2_fix {R : Type} {k : Nat} {kx0 : (Unit → Option R)} {kr : (Int → Option R)} (Inv : ((List Int) × Int × Int × Int) → Prop) (μ : ((List Int) × Int × Int × Int) → Nat) (G : ((List Int) × Int × Int × Int) → Option R) (h : ∀ v rec, Inv v → (∀ w, Inv w → μ w < μ v → rec w = G w) → s2 k rec kx0 kr v = G v) : ∀ n v, Inv v → μ v < n → l2 k n v kx0 kr = G v := loop_fix (S := fun rec v => s2 k rec kx0 kr v) (fun _ _ => rfl) Inv μ G h
theorem l2_for {R : Type} {k : Nat} {kx0 : (Unit → Option R)} {kr : (Int → Option R)} (N : Nat) (Inv : Nat → ((List Int)) → (Int) → (Int) → Prop) (G : Nat → ((List Int)) → (Int) → (Int) → Option R) (h : ∀ (i : Nat) (x0 : (List Int)) (x1 : Int) (x7 : Int) (rec : (List Int) × Int × Int × Int → Option R), i ≤ N → Inv i x0 x1 x7 → (∀ (x0' : (List Int)) (x1' : Int) (x7' : Int), i < N → Inv (i + 1) x0' x1' x7' → rec (x0', x1', x7', ((i : Int) + 1)) = G (i + 1) x0' x1' x7') → s2 k rec kx0 kr (x0, x1, x7, (i : Int)) = G i x0 x1 x7) : ∀ (n i : Nat) (x0 : (List Int)) (x1 : Int) (x7 : Int), i ≤ N → Inv i x0 x1 x7 → N - i < n → l2 k n (x0, x1, x7, (i : Int)) kx0 kr = G i x0 x1 x7 := by
  intro n
  induction n with
  | zero => intro i x0 x1 x7 _ _ h0; omega
  | succ n ih =>
    intro i x0 x1 x7 hi hv hn
    exact h i x0 x1 x7 (fun w => l2 k n w kx0 kr) hi hv (fun x0' x1' x7' hlt hv' => ih (i + 1) x0' x1' x7' hlt hv' (by omega))
def f (k : Nat) (a0 : (List Int)) (a1 : Int) : (Option ((Int × Unit) × (Unit))) :=
  (l2 k k (a0, a1, ((a0.length : Nat) : Int), (0 : Int)) (fun (_ : Unit) => (some (((-1 : Int), ()), ()))) (fun o1 => (some ((o1, ()), ()))))
end slices_Index_int64_int64

/-! ### loop.example/g00910/impl.uncalledOf -/
namespace impl_uncalledOf
def s5 {R : Type} (k : Nat) (rec : Int × Int × Int × (List Int) × Int × Int → Option R) (kx0 : (Int × Int × Int → Option R)) : Int × Int × Int × (List Int) × Int × Int → Option R := fun (x4, x5, x6, x14, x15, x16) =>
  (bif (decide (x16 < x15)) then (bif ((decide (0 ≤ x16)) && (decide (x16 < ((x14.length : Nat) : Int)))) then (bif (x16 != x5) then (rec (x4, x5, (if (x14.getD (Int.toNat x16) (0 : Int)) > x6 then (x14.getD (Int.toNat x16) (0 : Int)) else x6), x14, x15, (IntKind.wrap .i64 (x16 + (1 : Int))))) else (rec (x4, x5, x6, x14, x15, (IntKind.wrap .i64 (x16 + (1 : Int)))))) else none) else (kx0 (x4, x5, x6)))
def l5 {R : Type} (k : Nat) : Nat → Int × Int × Int × (List Int) × Int × Int → (Int × Int × Int → Option R) → Option R
  | 0, _, _ => none
  | n + 1, v, kx0 => s5 k (fun w => l5 k n w kx0) kx0 v
theorem l5_fix {R : Type} {k : Nat} {kx0 : (Int × Int × Int → Option R)} (Inv : (Int × Int × Int × (List Int) × Int × Int) → Prop) (μ : (Int × Int × Int × (List Int) × Int × Int) → Nat) (G : (Int × Int × Int × (List Int) × Int × Int) → Option R) (h : ∀ v rec, Inv v → (∀ w, Inv w → μ w < μ v → rec w = G w) → s5 k rec kx0 v = G v) : ∀ n v, Inv v → μ v < n → l5 k n v kx0 = G v := loop_fix (S := fun rec v => s5 k rec kx0 v) (fun _ _ => rfl) Inv μ G h
theorem l5_for {R : Type} {k : Nat} {kx0 : (Int × Int × Int → Option R)} (N : Nat) (Inv : Nat → (Int) → (Int) → (Int) → ((List Int)) → (Int) → Prop) (G : Nat → (Int) → (Int) → (Int) → ((List Int)) → (Int) → Option R) (h : ∀ (i : Nat) (x4 : Int) (x5 : Int) (x6 : Int) (x14 : (List Int)) (x15 : Int) (rec : Int × Int × Int × (List Int) × Int × Int → Option R), i ≤ N → Inv i x4 x5 x6 x14 x15 → (∀ (x4' : Int) (x5' : Int) (x6' : Int) (x14' : (List Int)) (x15' : Int), i < N → Inv (i + 1) x4' x5' x6' x14' x15' → rec (x4', x5', x6', x14', x15', ((i : Int) + 1)) = G (i + 1) x4' x5' x6' x14' x15') → s5 k rec kx0 (x4, x5, x6, x14, x15, (i : Int)) = G i x4 x5 x6 x14 x15) : ∀ (n i : Nat) (x4 : Int) (x5 : Int) (x6 : Int) (x14 : (List Int)) (x15 : Int), i ≤ N → Inv i x4 x5 x6 x14 x15 → N - i < n → l5 k n (x4, x5, x6, x14, x15, (i : Int)) kx0 = G i x4 x5 x6 x14 x15 := by
  intro n
  induction n with
  | zero => intro i x4 x5 x6 x14 x15 _ _ h0; omega
  | succ n ih =>
    intro i x4 x5 x6 x14 x15 hi hv hn
    exact h i x4 x5 x6 x14 x15 (fun w => l5 k n w kx0) hi hv (fun x4' x5' x6' x14' x15' hlt hv' => ih (i + 1) x4' x5' x6' x14' x15' hlt hv' (by omega))
def f (k : Nat) (a0 : (List Int)) : (Option ((Int × Int × Unit) × (Unit))) :=
  ((slices_Max_int64_int64.f k a0).bind fun r1 => ((slices_Index_int64_int64.f k a0 r1.1.1).bind fun r2 => (l5 k k (r1.1.1, r2.1.1, (0 : Int), a0, ((a0.length : Nat) : Int), (0 : Int)) (fun (o3, o4, o5) => (bif (o5 == o3) then (some (((0 : Int), ((0 : Int), ())), ())) else (some ((o4, ((IntKind.wrap .i64 (o3 - o5)), ())), ())))))))
end impl_uncalledOf

/-! ### loop.example/g00910/impl.refunded -/
namespace impl_refunded
def f (k : Nat) (a0 : (List Int)) : (Option (((List Int) × Unit) × (Unit))) :=
  ((slices_Clone_int64_int64.f k a0).bind fun r1 => ((impl_uncalledOf.f k a0).bind fun r2 => (bif ((decide (0 ≤ r2.1.1)) && (decide (r2.1.1 < ((r1.1.1.length : Nat) : Int)))) then (bif (decide ((Int.toNat r2.1.1) < r1.1.1.length)) then (bif ((decide (0 ≤ r2.1.1)) && (decide (r2.1.1 < ((r1.1.1.length : Nat) : Int)))) then (bif (decide ((Int.toNat r2.1.1) < r1.1.1.length)) then (some (((r1.1.1.set (Int.toNat r2.1.1) (IntKind.wrap .i64 ((r1.1.1.getD (Int.toNat r2.1.1) (0 : Int)) - r2.1.2.1))), ()), ())) else none) else none) else none) else none)))
end impl_refunded

/-! ### loop.example/g00910/impl.RefundOf -/
namespace impl_RefundOf
def f (k : Nat) (a0 : (List Int)) (a1 : (List Bool)) : (Option (((List Int) × Int × Unit) × (Unit))) :=
  ((impl_ArePayments.f k a0 a1).bind fun r1 => (bif (!r1.1.1) then (some ((([] : List Int), ((1 : Int), ())), ())) else ((impl_refunded.f k a0).bind fun r2 => (some ((r2.1.1, ((0 : Int), ())), ())))))
end impl_RefundOf

/-! ### loop.example/g00910/laws.markBoolS -/
namespace laws_markBoolS
def s2 {R : Type} (k : Nat) (rec : Int × Int × (List Bool) → Option R) (kx0 : (Int × (List Bool) → Option R)) : Int × Int × (List Bool) → Option R := fun (x1, x5, y0) =>
  (bif (decide (x5 < ((y0.length : Nat) : Int))) then (bif (!(decide ((3 : Int) = 0))) then (bif ((decide (0 ≤ x5)) && (decide (x5 < ((y0.length : Nat) : Int)))) then (bif (decide ((Int.toNat x5) < y0.length)) then (rec ((IntKind.wrap .i64 (x1 + (1 : Int))), (IntKind.wrap .i64 (x5 + (1 : Int))), (y0.set (Int.toNat x5) ((Int.tmod x1 (3 : Int)) == (0 : Int))))) else none) else none) else none) else (kx0 (x1, y0)))
def l2 {R : Type} (k : Nat) : Nat → Int × Int × (List Bool) → (Int × (List Bool) → Option R) → Option R
  | 0, _, _ => none
  | n + 1, v, kx0 => s2 k (fun w => l2 k n w kx0) kx0 v
theorem l2_fix {R : Type} {k : Nat} {kx0 : (Int × (List Bool) → Option R)} (Inv : (Int × Int × (List Bool)) → Prop) (μ : (Int × Int × (List Bool)) → Nat) (G : (Int × Int × (List Bool)) → Option R) (h : ∀ v rec, Inv v → (∀ w, Inv w → μ w < μ v → rec w = G w) → s2 k rec kx0 v = G v) : ∀ n v, Inv v → μ v < n → l2 k n v kx0 = G v := loop_fix (S := fun rec v => s2 k rec kx0 v) (fun _ _ => rfl) Inv μ G h
theorem l2_for {R : Type} {k : Nat} {kx0 : (Int × (List Bool) → Option R)} (N : Nat) (Inv : Nat → (Int) → ((List Bool)) → Prop) (G : Nat → (Int) → ((List Bool)) → Option R) (h : ∀ (i : Nat) (x1 : Int) (y0 : (List Bool)) (rec : Int × Int × (List Bool) → Option R), i ≤ N → Inv i x1 y0 → (∀ (x1' : Int) (y0' : (List Bool)), i < N → Inv (i + 1) x1' y0' → rec (x1', ((i : Int) + 1), y0') = G (i + 1) x1' y0') → s2 k rec kx0 (x1, (i : Int), y0) = G i x1 y0) : ∀ (n i : Nat) (x1 : Int) (y0 : (List Bool)), i ≤ N → Inv i x1 y0 → N - i < n → l2 k n (x1, (i : Int), y0) kx0 = G i x1 y0 := by
  intro n
  induction n with
  | zero => intro i x1 y0 _ _ h0; omega
  | succ n ih =>
    intro i x1 y0 hi hv hn
    exact h i x1 y0 (fun w => l2 k n w kx0) hi hv (fun x1' y0' hlt hv' => ih (i + 1) x1' y0' hlt hv' (by omega))
def f (k : Nat) (a0 : (List Bool)) (a1 : Int) : (Option ((Int × Unit) × ((List Bool) × Unit))) :=
  (l2 k k (a1, (0 : Int), a0) (fun (o1, o2) => (some ((o1, ()), (o2, ())))))
end laws_markBoolS

/-! ### loop.example/g00910/laws.FnExactRefundOf -/
namespace laws_FnExactRefundOf
def f (k : Nat) (a0 : (List Int)) (a1 : (List Bool)) : (Option ((Bool × Unit) × (Unit))) :=
  (bif (decide (((a0.length : Nat) : Int) > (1048576 : Int))) then (some ((true, ()), ())) else (bif (decide (((a1.length : Nat) : Int) > (1048576 : Int))) then (some ((true, ()), ())) else ((laws_toInt64S.f k a0).bind fun r1 => ((laws_toBoolS.f k a1).bind fun r2 => ((spec_RefundOf.f k r1.1.1 r2.1.1).bind fun r3 => ((laws_toInt64S.f k a0).bind fun r4 => ((laws_toBoolS.f k a1).bind fun r5 => ((impl_RefundOf.f k r4.1.1 r5.1.1).bind fun r6 => ((laws_eqInt64S.f k r6.1.1 r3.1.1).bind fun r7 => (bif (!r7.1.1) then (some ((false, ()), ())) else (bif (r6.1.2.1 != r3.1.2.1) then (some ((false, ()), ())) else ((laws_toInt64S.f k a0).bind fun r8 => ((laws_eqInt64S.f k r4.1.1 r8.1.1).bind fun r9 => (bif (!r9.1.1) then (some ((false, ()), ())) else ((laws_toBoolS.f k a1).bind fun r10 => ((laws_eqBoolS.f k r5.1.1 r10.1.1).bind fun r11 => (bif (!r11.1.1) then (some ((false, ()), ())) else ((laws_markInt64S.f k r4.1.1 (1 : Int)).bind fun r12 => ((laws_markBoolS.f k r5.1.1 r12.1.1).bind fun r13 => (bif (decide (r13.1.1 < (0 : Int))) then (some ((false, ()), ())) else ((laws_eqInt64S.f k r6.1.1 r3.1.1).bind fun r14 => (bif (!r14.1.1) then (some ((false, ()), ())) else (bif (r6.1.2.1 != r3.1.2.1) then (some ((false, ()), ())) else ((laws_markInt64S.f k r6.1.1 (1 : Int)).bind fun r15 => ((laws_heldInt64S.f k r15.2.1 (1 : Int)).bind fun r16 => (bif (decide (r16.1.1 < (0 : Int))) then (some ((false, ()), ())) else (bif (r16.1.1 != r15.1.1) then (some ((false, ()), ())) else ((laws_toInt64S.f k a0).bind fun r17 => ((laws_toBoolS.f k a1).bind fun r18 => ((impl_RefundOf.f k r17.1.1 r18.1.1).bind fun r19 => ((laws_eqInt64S.f k r19.1.1 r3.1.1).bind fun r20 => (bif (!r20.1.1) then (some ((false, ()), ())) else (bif (r19.1.2.1 != r3.1.2.1) then (some ((false, ()), ())) else ((laws_heldInt64S.f k r15.2.1 (1 : Int)).bind fun r21 => (bif (decide (r21.1.1 < (0 : Int))) then (some ((false, ()), ())) else (bif (r21.1.1 != r15.1.1) then (some ((false, ()), ())) else (some ((true, ()), ()))))))))))))))))))))))))))))))))))))))
end laws_FnExactRefundOf
end Go.Sh
