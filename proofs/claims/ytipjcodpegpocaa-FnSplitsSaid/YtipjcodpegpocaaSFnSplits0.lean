/- For each Go function that the law reaches, a Lean function over plain values, and the rule of each of its loops; conditions: none. -/
import Derived.Test.YtipjcodpegpocaaPL
noncomputable section
set_option linter.unusedVariables false
namespace Go.Sh
open Go
/-! ### loop.example/g00910/spec.l01In -/
namespace spec_l01In
def f (k : Nat) (a0 : Int) (a1 : Int) (a2 : Int) : (Option ((Bool × Unit) × (Unit))) :=
  (bif (decide (a0 ≥ a1)) then (some (((decide (a0 ≤ a2)), ()), ())) else (some ((false, ()), ())))
end spec_l01In

/-! ### loop.example/g00910/spec.l13Seats -/
namespace spec_l13Seats
def f (k : Nat) (a0 : Int) : (Option ((Bool × Unit) × (Unit))) :=
  ((spec_l01In.f k a0 (2 : Int) (6 : Int)).bind fun r1 => (some ((r1.1.1, ()), ())))
end spec_l13Seats

/-! ### loop.example/g00910/spec.l01Rises -/
namespace spec_l01Rises
def s2 {R : Type} (k : Nat) (rec : (List Int) × Int × Int → Option R) (kx0 : (Unit → Option R)) (kr : (Bool → Option R)) : (List Int) × Int × Int → Option R := fun (x0, x1, x5) =>
  (bif (decide (x5 < ((x0.length : Nat) : Int))) then (bif ((decide (0 ≤ x5)) && (decide (x5 < ((x0.length : Nat) : Int)))) then ((spec_l01In.f k (x0.getD (Int.toNat x5) (0 : Int)) (0 : Int) (IntKind.wrap .i64 (x1 - (1 : Int)))).bind fun r1 => (bif (!r1.1.1) then (kr false) else (bif (decide (x5 > (0 : Int))) then (bif ((decide (0 ≤ x5)) && (decide (x5 < ((x0.length : Nat) : Int)))) then (bif ((decide (0 ≤ (IntKind.wrap .i64 (x5 - (1 : Int))))) && (decide ((IntKind.wrap .i64 (x5 - (1 : Int))) < ((x0.length : Nat) : Int)))) then (bif (decide ((x0.getD (Int.toNat x5) (0 : Int)) ≤ (x0.getD (Int.toNat (IntKind.wrap .i64 (x5 - (1 : Int)))) (0 : Int)))) then (kr false) else (rec (x0, x1, (IntKind.wrap .i64 (x5 + (1 : Int)))))) else none) else none) else (rec (x0, x1, (IntKind.wrap .i64 (x5 + (1 : Int)))))))) else none) else (kx0 ()))
def l2 {R : Type} (k : Nat) : Nat → (List Int) × Int × Int → (Unit → Option R) → (Bool → Option R) → Option R
  | 0, _, _, _ => none
  | n + 1, v, kx0, kr => s2 k (fun w => l2 k n w kx0 kr) kx0 kr v
theorem l2_fix {R : Type} {k : Nat} {kx0 : (Unit → Option R)} {kr : (Bool → Option R)} (Inv : ((List Int) × Int × Int) → Prop) (μ : ((List Int) × Int × Int) → Nat) (G : ((List Int) × Int × Int) → Option R) (h : ∀ v rec, Inv v → (∀ w, Inv w → μ w < μ v → rec w = G w) → s2 k rec kx0 kr v = G v) : ∀ n v, Inv v → μ v < n → l2 k n v kx0 kr = G v := loop_fix (S := fun rec v => s2 k rec kx0 kr v) (fun _ _ => rfl) Inv μ G h
theorem l2_for {R : Type} {k : Nat} {kx0 : (Unit → Option R)} {kr : (Bool → Option R)} (N : Nat) (Inv : Nat → ((List Int)) → (Int) → Prop) (G : Nat → ((List Int)) → (Int) → Option R) (h : ∀ (i : Nat) (x0 : (List Int)) (x1 : Int) (rec : (List Int) × Int × Int → Option R), i ≤ N → Inv i x0 x1 → (∀ (x0' : (List Int)) (x1' : Int), i < N → Inv (i + 1) x0' x1' → rec (x0', x1', ((i : Int) + 1)) = G (i + 1) x0' x1') → s2 k rec kx0 kr (x0, x1, (i : Int)) = G i x0 x1) : ∀ (n i : Nat) (x0 : (List Int)) (x1 : Int), i ≤ N → Inv i x0 x1 → N - i < n → l2 k n (x0, x1, (i : Int)) kx0 kr = G i x0 x1 := by
  intro n
  induction n with
  | zero => intro i x0 x1 _ _ h0; omega
  | succ n ih =>
    intro i x0 x1 hi hv hn
    exact h i x0 x1 (fun w => l2 k n w kx0 kr) hi hv (fun x0' x1' hlt hv' => ih (i + 1) x0' x1' hlt hv' (by omega))
def f (k : Nat) (a0 : (List Int)) (a1 : Int) : (Option ((Bool × Unit) × (Unit))) :=
  (l2 k k (a0, a1, (0 : Int)) (fun (_ : Unit) => (some ((true, ()), ()))) (fun o2 => (some ((o2, ()), ()))))
end spec_l01Rises

/-! ### loop.example/g00910/spec.l13Winners -/
namespace spec_l13Winners
def f (k : Nat) (a0 : (List Int)) (a1 : Int) : (Option ((Bool × Unit) × (Unit))) :=
  (bif (decide (((a0.length : Nat) : Int) > (0 : Int))) then ((spec_l01Rises.f k a0 a1).bind fun r1 => (some ((r1.1.1, ()), ()))) else (some ((false, ()), ())))
end spec_l13Winners

/-! ### loop.example/g00910/spec.l13Amount -/
namespace spec_l13Amount
def f (k : Nat) (a0 : Int) : (Option ((Bool × Unit) × (Unit))) :=
  ((spec_l01In.f k a0 (0 : Int) (600000 : Int)).bind fun r1 => (some ((r1.1.1, ()), ())))
end spec_l13Amount

/-! ### loop.example/g00910/spec.l01Has -/
namespace spec_l01Has
def s2 {R : Type} (k : Nat) (rec : (List Int) × Int × Int → Option R) (kx0 : (Unit → Option R)) (kr : (Bool → Option R)) : (List Int) × Int × Int → Option R := fun (x0, x1, x5) =>
  (bif (decide (x5 < ((x0.length : Nat) : Int))) then (bif ((decide (0 ≤ x5)) && (decide (x5 < ((x0.length : Nat) : Int)))) then (bif ((x0.getD (Int.toNat x5) (0 : Int)) == x1) then (kr true) else (rec (x0, x1, (IntKind.wrap .i64 (x5 + (1 : Int)))))) else none) else (kx0 ()))
def l2 {R : Type} (k : Nat) : Nat → (List Int) × Int × Int → (Unit → Option R) → (Bool → Option R) → Option R
  | 0, _, _, _ => none
  | n + 1, v, kx0, kr => s2 k (fun w => l2 k n w kx0 kr) kx0 kr v
theorem l2_fix {R : Type} {k : Nat} {kx0 : (Unit → Option R)} {kr : (Bool → Option R)} (Inv : ((List Int) × Int × Int) → Prop) (μ : ((List Int) × Int × Int) → Nat) (G : ((List Int) × Int × Int) → Option R) (h : ∀ v rec, Inv v → (∀ w, Inv w → μ w < μ v → rec w = G w) → s2 k rec kx0 kr v = G v) : ∀ n v, Inv v → μ v < n → l2 k n v kx0 kr = G v := loop_fix (S := fun rec v => s2 k rec kx0 kr v) (fun _ _ => rfl) Inv μ G h
theorem l2_for {R : Type} {k : Nat} {kx0 : (Unit → Option R)} {kr : (Bool → Option R)} (N : Nat) (Inv : Nat → ((List Int)) → (Int) → Prop) (G : Nat → ((List Int)) → (Int) → Option R) (h : ∀ (i : Nat) (x0 : (List Int)) (x1 : Int) (rec : (List Int) × Int × Int → Option R), i ≤ N → Inv i x0 x1 → (∀ (x0' : (List Int)) (x1' : Int), i < N → Inv (i + 1) x0' x1' → rec (x0', x1', ((i : Int) + 1)) = G (i + 1) x0' x1') → s2 k rec kx0 kr (x0, x1, (i : Int)) = G i x0 x1) : ∀ (n i : Nat) (x0 : (List Int)) (x1 : Int), i ≤ N → Inv i x0 x1 → N - i < n → l2 k n (x0, x1, (i : Int)) kx0 kr = G i x0 x1 := by
  intro n
  induction n with
  | zero => intro i x0 x1 _ _ h0; omega
  | succ n ih =>
    intro i x0 x1 hi hv hn
    exact h i x0 x1 (fun w => l2 k n w kx0 kr) hi hv (fun x0' x1' hlt hv' => ih (i + 1) x0' x1' hlt hv' (by omega))
def f (k : Nat) (a0 : (List Int)) (a1 : Int) : (Option ((Bool × Unit) × (Unit))) :=
  (l2 k k (a0, a1, (0 : Int)) (fun (_ : Unit) => (some ((false, ()), ()))) (fun o1 => (some ((o1, ()), ()))))
end spec_l01Has

/-! ### loop.example/g00910/spec.l13Split -/
namespace spec_l13Split
def s5 {R : Type} (k : Nat) (rec : Int × (List Int) × Int × Int × Int × Int × Int × (List Int) → Option R) (kx0 : ((List Int) → Option R)) : Int × (List Int) × Int × Int × Int × Int × Int × (List Int) → Option R := fun (x0, x1, x2, x3, x10, x11, x12, y0) =>
  (bif (decide (x12 < x2)) then (bif (!(decide (x2 = 0))) then ((spec_l01Has.f k x1 (Int.tmod (IntKind.wrap .i64 (x3 + x12)) x2)).bind fun r1 => (bif r1.1.1 then (bif (!(decide (x10 = 0))) then (bif ((decide (0 ≤ (Int.tmod (IntKind.wrap .i64 (x3 + x12)) x2))) && (decide ((Int.tmod (IntKind.wrap .i64 (x3 + x12)) x2) < ((y0.length : Nat) : Int)))) then (bif (decide ((Int.toNat (Int.tmod (IntKind.wrap .i64 (x3 + x12)) x2)) < y0.length)) then (bif (decide (x11 > (0 : Int))) then (bif ((decide (0 ≤ (Int.tmod (IntKind.wrap .i64 (x3 + x12)) x2))) && (decide ((Int.tmod (IntKind.wrap .i64 (x3 + x12)) x2) < (((y0.set (Int.toNat (Int.tmod (IntKind.wrap .i64 (x3 + x12)) x2)) (IntKind.wrap .i64 (Int.tdiv x0 x10))).length : Nat) : Int)))) then (bif (decide ((Int.toNat (Int.tmod (IntKind.wrap .i64 (x3 + x12)) x2)) < (y0.set (Int.toNat (Int.tmod (IntKind.wrap .i64 (x3 + x12)) x2)) (IntKind.wrap .i64 (Int.tdiv x0 x10))).length)) then (bif ((decide (0 ≤ (Int.tmod (IntKind.wrap .i64 (x3 + x12)) x2))) && (decide ((Int.tmod (IntKind.wrap .i64 (x3 + x12)) x2) < (((y0.set (Int.toNat (Int.tmod (IntKind.wrap .i64 (x3 + x12)) x2)) (IntKind.wrap .i64 (Int.tdiv x0 x10))).length : Nat) : Int)))) then (bif (decide ((Int.toNat (Int.tmod (IntKind.wrap .i64 (x3 + x12)) x2)) < (y0.set (Int.toNat (Int.tmod (IntKind.wrap .i64 (x3 + x12)) x2)) (IntKind.wrap .i64 (Int.tdiv x0 x10))).length)) then (rec (x0, x1, x2, x3, x10, (IntKind.wrap .i64 (x11 - (1 : Int))), (IntKind.wrap .i64 (x12 + (1 : Int))), ((y0.set (Int.toNat (Int.tmod (IntKind.wrap .i64 (x3 + x12)) x2)) (IntKind.wrap .i64 (Int.tdiv x0 x10))).set (Int.toNat (Int.tmod (IntKind.wrap .i64 (x3 + x12)) x2)) (IntKind.wrap .i64 (((y0.set (Int.toNat (Int.tmod (IntKind.wrap .i64 (x3 + x12)) x2)) (IntKind.wrap .i64 (Int.tdiv x0 x10))).getD (Int.toNat (Int.tmod (IntKind.wrap .i64 (x3 + x12)) x2)) (0 : Int)) + (1 : Int)))))) else none) else none) else none) else none) else (rec (x0, x1, x2, x3, x10, x11, (IntKind.wrap .i64 (x12 + (1 : Int))), (y0.set (Int.toNat (Int.tmod (IntKind.wrap .i64 (x3 + x12)) x2)) (IntKind.wrap .i64 (Int.tdiv x0 x10)))))) else none) else none) else none) else (rec (x0, x1, x2, x3, x10, x11, (IntKind.wrap .i64 (x12 + (1 : Int))), y0)))) else none) else (kx0 y0))
def l5 {R : Type} (k : Nat) : Nat → Int × (List Int) × Int × Int × Int × Int × Int × (List Int) → ((List Int) → Option R) → Option R
  | 0, _, _ => none
  | n + 1, v, kx0 => s5 k (fun w => l5 k n w kx0) kx0 v
theorem l5_fix {R : Type} {k : Nat} {kx0 : ((List Int) → Option R)} (Inv : (Int × (List Int) × Int × Int × Int × Int × Int × (List Int)) → Prop) (μ : (Int × (List Int) × Int × Int × Int × Int × Int × (List Int)) → Nat) (G : (Int × (List Int) × Int × Int × Int × Int × Int × (List Int)) → Option R) (h : ∀ v rec, Inv v → (∀ w, Inv w → μ w < μ v → rec w = G w) → s5 k rec kx0 v = G v) : ∀ n v, Inv v → μ v < n → l5 k n v kx0 = G v := loop_fix (S := fun rec v => s5 k rec kx0 v) (fun _ _ => rfl) Inv μ G h
theorem l5_for {R : Type} {k : Nat} {kx0 : ((List Int) → Option R)} (N : Nat) (Inv : Nat → (Int) → ((List Int)) → (Int) → (Int) → (Int) → (Int) → ((List Int)) → Prop) (G : Nat → (Int) → ((List Int)) → (Int) → (Int) → (Int) → (Int) → ((List Int)) → Option R) (h : ∀ (i : Nat) (x0 : Int) (x1 : (List Int)) (x2 : Int) (x3 : Int) (x10 : Int) (x11 : Int) (y0 : (List Int)) (rec : Int × (List Int) × Int × Int × Int × Int × Int × (List Int) → Option R), i ≤ N → Inv i x0 x1 x2 x3 x10 x11 y0 → (∀ (x0' : Int) (x1' : (List Int)) (x2' : Int) (x3' : Int) (x10' : Int) (x11' : Int) (y0' : (List Int)), i < N → Inv (i + 1) x0' x1' x2' x3' x10' x11' y0' → rec (x0', x1', x2', x3', x10', x11', ((i : Int) + 1), y0') = G (i + 1) x0' x1' x2' x3' x10' x11' y0') → s5 k rec kx0 (x0, x1, x2, x3, x10, x11, (i : Int), y0) = G i x0 x1 x2 x3 x10 x11 y0) : ∀ (n i : Nat) (x0 : Int) (x1 : (List Int)) (x2 : Int) (x3 : Int) (x10 : Int) (x11 : Int) (y0 : (List Int)), i ≤ N → Inv i x0 x1 x2 x3 x10 x11 y0 → N - i < n → l5 k n (x0, x1, x2, x3, x10, x11, (i : Int), y0) kx0 = G i x0 x1 x2 x3 x10 x11 y0 := by
  intro n
  induction n with
  | zero => intro i x0 x1 x2 x3 x10 x11 y0 _ _ h0; omega
  | succ n ih =>
    intro i x0 x1 x2 x3 x10 x11 y0 hi hv hn
    exact h i x0 x1 x2 x3 x10 x11 y0 (fun w => l5 k n w kx0) hi hv (fun x0' x1' x2' x3' x10' x11' y0' hlt hv' => ih (i + 1) x0' x1' x2' x3' x10' x11' y0' hlt hv' (by omega))
def f (k : Nat) (a0 : Int) (a1 : (List Int)) (a2 : Int) (a3 : Int) : (Option (((List Int) × Unit) × (Unit))) :=
  (bif ((decide (0 ≤ a2)) && ((decide (a2 ≤ a2)) && (decide (a2 * ((8 : Nat) : Int) ≤ (AM.maxBytes : Int))))) then (bif (!(decide (((a1.length : Nat) : Int) = 0))) then (l5 k k (a0, a1, a2, a3, ((a1.length : Nat) : Int), (Int.tmod a0 ((a1.length : Nat) : Int)), (0 : Int), (List.replicate (Int.toNat a2) (0 : Int))) (fun o2 => (some ((o2, ()), ())))) else none) else none)
end spec_l13Split

/-! ### loop.example/g00910/spec.SplitChips -/
namespace spec_SplitChips
def f (k : Nat) (a0 : Int) (a1 : (List Int)) (a2 : Int) (a3 : Int) : (Option (((List Int) × Int × Unit) × (Unit))) :=
  ((spec_l13Seats.f k a2).bind fun r1 => (bif (!r1.1.1) then (some ((([] : List Int), ((2 : Int), ())), ())) else ((spec_l13Winners.f k a1 a2).bind fun r2 => (bif (!r2.1.1) then (some ((([] : List Int), ((1 : Int), ())), ())) else ((spec_l13Amount.f k a0).bind fun r3 => (bif (!r3.1.1) then (some ((([] : List Int), ((2 : Int), ())), ())) else ((spec_l01In.f k a3 (0 : Int) (IntKind.wrap .i64 (a2 - (1 : Int)))).bind fun r4 => (bif (!r4.1.1) then (some ((([] : List Int), ((2 : Int), ())), ())) else ((spec_l13Split.f k a0 a1 a2 a3).bind fun r5 => (some ((r5.1.1, ((0 : Int), ())), ())))))))))))
end spec_SplitChips

/-! ### loop.example/g00910/impl.within -/
namespace impl_within
def f (k : Nat) (a0 : Int) (a1 : Int) (a2 : Int) : (Option ((Bool × Unit) × (Unit))) :=
  (bif (decide (a0 ≥ a1)) then (some (((decide (a0 ≤ a2)), ()), ())) else (some ((false, ()), ())))
end impl_within

/-! ### loop.example/g00910/impl.allWithin -/
namespace impl_allWithin
def s2 {R : Type} (k : Nat) (rec : Int × Int × (List Int) × Int × Int → Option R) (kx0 : (Unit → Option R)) (kr : (Bool → Option R)) : Int × Int × (List Int) × Int × Int → Option R := fun (x1, x2, x9, x10, x11) =>
  (bif (decide (x11 < x10)) then (bif ((decide (0 ≤ x11)) && (decide (x11 < ((x9.length : Nat) : Int)))) then ((impl_within.f k (x9.getD (Int.toNat x11) (0 : Int)) x1 x2).bind fun r1 => (bif (!r1.1.1) then (kr false) else (rec (x1, x2, x9, x10, (IntKind.wrap .i64 (x11 + (1 : Int))))))) else none) else (kx0 ()))
def l2 {R : Type} (k : Nat) : Nat → Int × Int × (List Int) × Int × Int → (Unit → Option R) → (Bool → Option R) → Option R
  | 0, _, _, _ => none
  | n + 1, v, kx0, kr => s2 k (fun w => l2 k n w kx0 kr) kx0 kr v
theorem l2_fix {R : Type} {k : Nat} {kx0 : (Unit → Option R)} {kr : (Bool → Option R)} (Inv : (Int × Int × (List Int) × Int × Int) → Prop) (μ : (Int × Int × (List Int) × Int × Int) → Nat) (G : (Int × Int × (List Int) × Int × Int) → Option R) (h : ∀ v rec, Inv v → (∀ w, Inv w → μ w < μ v → rec w = G w) → s2 k rec kx0 kr v = G v) : ∀ n v, Inv v → μ v < n → l2 k n v kx0 kr = G v := loop_fix (S := fun rec v => s2 k rec kx0 kr v) (fun _ _ => rfl) Inv μ G h
theorem l2_for {R : Type} {k : Nat} {kx0 : (Unit → Option R)} {kr : (Bool → Option R)} (N : Nat) (Inv : Nat → (Int) → (Int) → ((List Int)) → (Int) → Prop) (G : Nat → (Int) → (Int) → ((List Int)) → (Int) → Option R) (h : ∀ (i : Nat) (x1 : Int) (x2 : Int) (x9 : (List Int)) (x10 : Int) (rec : Int × Int × (List Int) × Int × Int → Option R), i ≤ N → Inv i x1 x2 x9 x10 → (∀ (x1' : Int) (x2' : Int) (x9' : (List Int)) (x10' : Int), i < N → Inv (i + 1) x1' x2' x9' x10' → rec (x1', x2', x9', x10', ((i : Int) + 1)) = G (i + 1) x1' x2' x9' x10') → s2 k rec kx0 kr (x1, x2, x9, x10, (i : Int)) = G i x1 x2 x9 x10) : ∀ (n i : Nat) (x1 : Int) (x2 : Int) (x9 : (List Int)) (x10 : Int), i ≤ N → Inv i x1 x2 x9 x10 → N - i < n → l2 k n (x1, x2, x9, x10, (i : Int)) kx0 kr = G i x1 x2 x9 x10 := by
  intro n
  induction n with
  | zero => intro i x1 x2 x9 x10 _ _ h0; omega
  | succ n ih =>
    intro i x1 x2 x9 x10 hi hv hn
    exact h i x1 x2 x9 x10 (fun w => l2 k n w kx0 kr) hi hv (fun x1' x2' x9' x10' hlt hv' => ih (i + 1) x1' x2' x9' x10' hlt hv' (by omega))
def f (k : Nat) (a0 : (List Int)) (a1 : Int) (a2 : Int) : (Option ((Bool × Unit) × (Unit))) :=
  (l2 k k (a1, a2, a0, ((a0.length : Nat) : Int), (0 : Int)) (fun (_ : Unit) => (some ((true, ()), ()))) (fun o2 => (some ((o2, ()), ()))))
end impl_allWithin

/-! ### loop.example/g00910/impl.increasing -/
namespace impl_increasing
def s2 {R : Type} (k : Nat) (rec : (List Int) × Int → Option R) (kx0 : (Unit → Option R)) (kr : (Bool → Option R)) : (List Int) × Int → Option R := fun (x0, x3) =>
  (bif (decide (x3 < ((x0.length : Nat) : Int))) then (bif ((decide (0 ≤ (IntKind.wrap .i64 (x3 - (1 : Int))))) && (decide ((IntKind.wrap .i64 (x3 - (1 : Int))) < ((x0.length : Nat) : Int)))) then (bif ((decide (0 ≤ x3)) && (decide (x3 < ((x0.length : Nat) : Int)))) then (bif (decide ((x0.getD (Int.toNat (IntKind.wrap .i64 (x3 - (1 : Int)))) (0 : Int)) ≥ (x0.getD (Int.toNat x3) (0 : Int)))) then (kr false) else (rec (x0, (IntKind.wrap .i64 (x3 + (1 : Int)))))) else none) else none) else (kx0 ()))
def l2 {R : Type} (k : Nat) : Nat → (List Int) × Int → (Unit → Option R) → (Bool → Option R) → Option R
  | 0, _, _, _ => none
  | n + 1, v, kx0, kr => s2 k (fun w => l2 k n w kx0 kr) kx0 kr v
theorem l2_fix {R : Type} {k : Nat} {kx0 : (Unit → Option R)} {kr : (Bool → Option R)} (Inv : ((List Int) × Int) → Prop) (μ : ((List Int) × Int) → Nat) (G : ((List Int) × Int) → Option R) (h : ∀ v rec, Inv v → (∀ w, Inv w → μ w < μ v → rec w = G w) → s2 k rec kx0 kr v = G v) : ∀ n v, Inv v → μ v < n → l2 k n v kx0 kr = G v := loop_fix (S := fun rec v => s2 k rec kx0 kr v) (fun _ _ => rfl) Inv μ G h
theorem l2_for {R : Type} {k : Nat} {kx0 : (Unit → Option R)} {kr : (Bool → Option R)} (N : Nat) (Inv : Nat → ((List Int)) → Prop) (G : Nat → ((List Int)) → Option R) (h : ∀ (i : Nat) (x0 : (List Int)) (rec : (List Int) × Int → Option R), i ≤ N → Inv i x0 → (∀ (x0' : (List Int)), i < N → Inv (i + 1) x0' → rec (x0', ((i : Int) + 1)) = G (i + 1) x0') → s2 k rec kx0 kr (x0, (i : Int)) = G i x0) : ∀ (n i : Nat) (x0 : (List Int)), i ≤ N → Inv i x0 → N - i < n → l2 k n (x0, (i : Int)) kx0 kr = G i x0 := by
  intro n
  induction n with
  | zero => intro i x0 _ _ h0; omega
  | succ n ih =>
    intro i x0 hi hv hn
    exact h i x0 (fun w => l2 k n w kx0 kr) hi hv (fun x0' hlt hv' => ih (i + 1) x0' hlt hv' (by omega))
def f (k : Nat) (a0 : (List Int)) : (Option ((Bool × Unit) × (Unit))) :=
  (l2 k k (a0, (1 : Int)) (fun (_ : Unit) => (some ((true, ()), ()))) (fun o1 => (some ((o1, ()), ()))))
end impl_increasing

/-! ### loop.example/g00910/impl.areWinners -/
namespace impl_areWinners
def f (k : Nat) (a0 : (List Int)) (a1 : Int) : (Option ((Bool × Unit) × (Unit))) :=
  (bif (decide (((a0.length : Nat) : Int) > (0 : Int))) then ((impl_allWithin.f k a0 (0 : Int) (IntKind.wrap .i64 (a1 - (1 : Int)))).bind fun r1 => (bif r1.1.1 then ((impl_increasing.f k a0).bind fun r2 => (some ((r2.1.1, ()), ()))) else (some ((false, ()), ())))) else (some ((false, ()), ())))
end impl_areWinners

/-! ### slices.Index[[]int64,int64] -/
namespace slices_Index_int64_int64
def s2 {R : Type} (k : Nat) (rec : (List Int) × Int × Int × Int → Option R) (kx0 : (Unit → Option R)) (kr : (Int → Option R)) : (List Int) × Int × Int × Int → Option R := fun (x0, x1, x7, x8) =>
  (bif (decide (x8 < x7)) then (bif ((decide (0 ≤ x8)) && (decide (x8 < ((x0.length : Nat) : Int)))) then (bif (x1 == (x0.getD (Int.toNat x8) (0 : Int))) then (kr x8) else (rec (x0, x1, x7, (IntKind.wrap .i64 (x8 + (1 : Int)))))) else none) else (kx0 ()))
def l2 {R : Type} (k : Nat) : Nat → (List Int) × Int × Int × Int → (Unit → Option R) → (Int → Option R) → Option R
  | 0, _, _, _ => none
  | n + 1, v, kx0, kr => s2 k (fun w => l2 k n w kx0 kr) kx0 kr v
theorem l2_fix {R : Type} {k : Nat} {kx0 : (Unit → Option R)} {kr : (Int → Option R)} (Inv : ((List Int) × Int × Int × Int) → Prop) (μ : ((List Int) × Int × Int × Int) → Nat) (G : ((List Int) × Int × Int × Int) → Option R) (h : ∀ v rec, Inv v → (∀ w, Inv w → μ w < μ v → rec w = G w) → s2 k rec kx0 kr v = G v) : ∀ n v, Inv v → μ v < n → l2 k n v kx0 kr = G v := loop_fix (S := fun rec v => s2 k rec kx0 kr v) (fun _ _ => rfl) Inv μ G h
theorem l2_for {R : Type} {k : Nat} {kx0 : (Unit → Option R)} {kr : (Int → Option R)} (N : Nat) (Inv : Nat → ((List Int)) → (Int) → (Int) → Prop) (G : Nat → ((List Int)) → (Int) → (Int) → Option R) (h : ∀ (i : Nat) (x0 : (List Int)) (x1 : Int) (x7 : Int) (rec : (List Int) × Int × Int × Int → Option R), i ≤ N → Inv i x0 x1 x7 → (∀ (x0' : (List Int)) (x1' : Int) (x7' : Int), i < N → Inv (i + 1) x0' x1' x7' → rec (x0', x1', x7', ((i : Int) + 1)) = G (i + 1) x0' x1' x7') → s2 k rec kx0 kr (x0, x1, x7, (i : Int)) = G i x0 x1 x7) : ∀ (n i : Nat) (x0 : (List Int)) (x1 : Int) (x7 : Int), i ≤ N → Inv i x0 x1 x7 → N - i < n → l2 k n (x0, x1, x7, (i : Int)) kx0 kr = G i x0 x1 x7 := by
  intro n
  induction n with
  | zero => intro i x0 x1 x7 _ _ h0; omega
  | succ n ih =>
    intro i x0 x1 x7 hi hv hn
    exact h i x0 x1 x7 (fun w => l2 k n w kx0 kr) hi hv (fun x0' x1' x7' hlt hv' => ih (i + 1) x0' x1' x7' hlt hv' (by omega))
def f (k : Nat) (a0 : (List Int)) (a1 : Int) : (Option ((Int × Unit) × (Unit))) :=
  (l2 k k (a0, a1, ((a0.length : Nat) : Int), (0 : Int)) (fun (_ : Unit) => (some (((-1 : Int), ()), ()))) (fun o1 => (some ((o1, ()), ()))))
end slices_Index_int64_int64

/-! ### slices.Contains[[]int64,int64] -/
namespace slices_Contains_int64_int64
def f (k : Nat) (a0 : (List Int)) (a1 : Int) : (Option ((Bool × Unit) × (Unit))) :=
  ((slices_Index_int64_int64.f k a0 a1).bind fun r1 => (some (((decide (r1.1.1 ≥ (0 : Int))), ()), ())))
end slices_Contains_int64_int64

/-! ### loop.example/g00910/impl.splitChips -/
namespace impl_splitChips
def s5 {R : Type} (k : Nat) (rec : Int × (List Int) × Int × Int × Int × Int × Int × Int × (List Int) → Option R) (kx0 : ((List Int) → Option R)) : Int × (List Int) × Int × Int × Int × Int × Int × Int × (List Int) → Option R := fun (x0, x1, x2, x3, x10, x11, x21, x22, y0) =>
  (bif (decide (x22 < x21)) then (bif (!(decide (x2 = 0))) then ((slices_Contains_int64_int64.f k x1 (Int.tmod (IntKind.wrap .i64 (x3 + x22)) x2)).bind fun r1 => (bif (!r1.1.1) then (rec (x0, x1, x2, x3, x10, x11, x21, (IntKind.wrap .i64 (x22 + (1 : Int))), y0)) else (bif (!(decide (x10 = 0))) then (bif ((decide (0 ≤ (Int.tmod (IntKind.wrap .i64 (x3 + x22)) x2))) && (decide ((Int.tmod (IntKind.wrap .i64 (x3 + x22)) x2) < ((y0.length : Nat) : Int)))) then (bif (decide ((Int.toNat (Int.tmod (IntKind.wrap .i64 (x3 + x22)) x2)) < y0.length)) then (bif (decide (x11 > (0 : Int))) then (bif ((decide (0 ≤ (Int.tmod (IntKind.wrap .i64 (x3 + x22)) x2))) && (decide ((Int.tmod (IntKind.wrap .i64 (x3 + x22)) x2) < (((y0.set (Int.toNat (Int.tmod (IntKind.wrap .i64 (x3 + x22)) x2)) (IntKind.wrap .i64 (Int.tdiv x0 x10))).length : Nat) : Int)))) then (bif (decide ((Int.toNat (Int.tmod (IntKind.wrap .i64 (x3 + x22)) x2)) < (y0.set (Int.toNat (Int.tmod (IntKind.wrap .i64 (x3 + x22)) x2)) (IntKind.wrap .i64 (Int.tdiv x0 x10))).length)) then (bif ((decide (0 ≤ (Int.tmod (IntKind.wrap .i64 (x3 + x22)) x2))) && (decide ((Int.tmod (IntKind.wrap .i64 (x3 + x22)) x2) < (((y0.set (Int.toNat (Int.tmod (IntKind.wrap .i64 (x3 + x22)) x2)) (IntKind.wrap .i64 (Int.tdiv x0 x10))).length : Nat) : Int)))) then (bif (decide ((Int.toNat (Int.tmod (IntKind.wrap .i64 (x3 + x22)) x2)) < (y0.set (Int.toNat (Int.tmod (IntKind.wrap .i64 (x3 + x22)) x2)) (IntKind.wrap .i64 (Int.tdiv x0 x10))).length)) then (rec (x0, x1, x2, x3, x10, (IntKind.wrap .i64 (x11 - (1 : Int))), x21, (IntKind.wrap .i64 (x22 + (1 : Int))), ((y0.set (Int.toNat (Int.tmod (IntKind.wrap .i64 (x3 + x22)) x2)) (IntKind.wrap .i64 (Int.tdiv x0 x10))).set (Int.toNat (Int.tmod (IntKind.wrap .i64 (x3 + x22)) x2)) (IntKind.wrap .i64 (((y0.set (Int.toNat (Int.tmod (IntKind.wrap .i64 (x3 + x22)) x2)) (IntKind.wrap .i64 (Int.tdiv x0 x10))).getD (Int.toNat (Int.tmod (IntKind.wrap .i64 (x3 + x22)) x2)) (0 : Int)) + (1 : Int)))))) else none) else none) else none) else none) else (rec (x0, x1, x2, x3, x10, x11, x21, (IntKind.wrap .i64 (x22 + (1 : Int))), (y0.set (Int.toNat (Int.tmod (IntKind.wrap .i64 (x3 + x22)) x2)) (IntKind.wrap .i64 (Int.tdiv x0 x10)))))) else none) else none) else none))) else none) else (kx0 y0))
def l5 {R : Type} (k : Nat) : Nat → Int × (List Int) × Int × Int × Int × Int × Int × Int × (List Int) → ((List Int) → Option R) → Option R
  | 0, _, _ => none
  | n + 1, v, kx0 => s5 k (fun w => l5 k n w kx0) kx0 v
theorem l5_fix {R : Type} {k : Nat} {kx0 : ((List Int) → Option R)} (Inv : (Int × (List Int) × Int × Int × Int × Int × Int × Int × (List Int)) → Prop) (μ : (Int × (List Int) × Int × Int × Int × Int × Int × Int × (List Int)) → Nat) (G : (Int × (List Int) × Int × Int × Int × Int × Int × Int × (List Int)) → Option R) (h : ∀ v rec, Inv v → (∀ w, Inv w → μ w < μ v → rec w = G w) → s5 k rec kx0 v = G v) : ∀ n v, Inv v → μ v < n → l5 k n v kx0 = G v := loop_fix (S := fun rec v => s5 k rec kx0 v) (fun _ _ => rfl) Inv μ G h
theorem l5_for {R : Type} {k : Nat} {kx0 : ((List Int) → Option R)} (N : Nat) (Inv : Nat → (Int) → ((List Int)) → (Int) → (Int) → (Int) → (Int) → (Int) → ((List Int)) → Prop) (G : Nat → (Int) → ((List Int)) → (Int) → (Int) → (Int) → (Int) → (Int) → ((List Int)) → Option R) (h : ∀ (i : Nat) (x0 : Int) (x1 : (List Int)) (x2 : Int) (x3 : Int) (x10 : Int) (x11 : Int) (x21 : Int) (y0 : (List Int)) (rec : Int × (List Int) × Int × Int × Int × Int × Int × Int × (List Int) → Option R), i ≤ N → Inv i x0 x1 x2 x3 x10 x11 x21 y0 → (∀ (x0' : Int) (x1' : (List Int)) (x2' : Int) (x3' : Int) (x10' : Int) (x11' : Int) (x21' : Int) (y0' : (List Int)), i < N → Inv (i + 1) x0' x1' x2' x3' x10' x11' x21' y0' → rec (x0', x1', x2', x3', x10', x11', x21', ((i : Int) + 1), y0') = G (i + 1) x0' x1' x2' x3' x10' x11' x21' y0') → s5 k rec kx0 (x0, x1, x2, x3, x10, x11, x21, (i : Int), y0) = G i x0 x1 x2 x3 x10 x11 x21 y0) : ∀ (n i : Nat) (x0 : Int) (x1 : (List Int)) (x2 : Int) (x3 : Int) (x10 : Int) (x11 : Int) (x21 : Int) (y0 : (List Int)), i ≤ N → Inv i x0 x1 x2 x3 x10 x11 x21 y0 → N - i < n → l5 k n (x0, x1, x2, x3, x10, x11, x21, (i : Int), y0) kx0 = G i x0 x1 x2 x3 x10 x11 x21 y0 := by
  intro n
  induction n with
  | zero => intro i x0 x1 x2 x3 x10 x11 x21 y0 _ _ h0; omega
  | succ n ih =>
    intro i x0 x1 x2 x3 x10 x11 x21 y0 hi hv hn
    exact h i x0 x1 x2 x3 x10 x11 x21 y0 (fun w => l5 k n w kx0) hi hv (fun x0' x1' x2' x3' x10' x11' x21' y0' hlt hv' => ih (i + 1) x0' x1' x2' x3' x10' x11' x21' y0' hlt hv' (by omega))
def f (k : Nat) (a0 : Int) (a1 : (List Int)) (a2 : Int) (a3 : Int) : (Option (((List Int) × Unit) × (Unit))) :=
  (bif ((decide (0 ≤ a2)) && ((decide (a2 ≤ a2)) && (decide (a2 * ((8 : Nat) : Int) ≤ (AM.maxBytes : Int))))) then (bif (!(decide (((a1.length : Nat) : Int) = 0))) then (l5 k k (a0, a1, a2, a3, ((a1.length : Nat) : Int), (Int.tmod a0 ((a1.length : Nat) : Int)), a2, (0 : Int), (List.replicate (Int.toNat a2) (0 : Int))) (fun o2 => (some ((o2, ()), ())))) else none) else none)
end impl_splitChips

/-! ### loop.example/g00910/impl.SplitChips -/
namespace impl_SplitChips
def f (k : Nat) (a0 : Int) (a1 : (List Int)) (a2 : Int) (a3 : Int) : (Option (((List Int) × Int × Unit) × (Unit))) :=
  ((impl_within.f k a2 (2 : Int) (6 : Int)).bind fun r1 => (bif (!r1.1.1) then (some ((([] : List Int), ((2 : Int), ())), ())) else ((impl_areWinners.f k a1 a2).bind fun r2 => (bif (!r2.1.1) then (some ((([] : List Int), ((1 : Int), ())), ())) else ((impl_within.f k a0 (0 : Int) (600000 : Int)).bind fun r3 => (bif (!r3.1.1) then (some ((([] : List Int), ((2 : Int), ())), ())) else ((impl_within.f k a3 (0 : Int) (IntKind.wrap .i64 (a2 - (1 : Int)))).bind fun r4 => (bif (!r4.1.1) then (some ((([] : List Int), ((2 : Int), ())), ())) else ((impl_splitChips.f k a0 a1 a2 a3).bind fun r5 => (some ((r5.1.1, ((0 : Int), ())), ())))))))))))
end impl_SplitChips

/-! ### loop.example/g00910/spec.l13Values -/
namespace spec_l13Values
def s2 {R : Type} (k : Nat) (rec : (List Int) × Int × Int → Option R) (kx0 : ((List Int) × Int → Option R)) (kr : ((List Int) × Int × Bool → Option R)) : (List Int) × Int × Int → Option R := fun (x0, x1, x5) =>
  (bif (decide (x5 < ((x0.length : Nat) : Int))) then (bif ((decide (0 ≤ x5)) && (decide (x5 < ((x0.length : Nat) : Int)))) then (bif (decide ((x0.getD (Int.toNat x5) (0 : Int)) < (-1 : Int))) then (kr (x0, x1, false)) else (rec (x0, x1, (IntKind.wrap .i64 (x5 + (1 : Int)))))) else none) else (kx0 (x0, x1)))
def l2 {R : Type} (k : Nat) : Nat → (List Int) × Int × Int → ((List Int) × Int → Option R) → ((List Int) × Int × Bool → Option R) → Option R
  | 0, _, _, _ => none
  | n + 1, v, kx0, kr => s2 k (fun w => l2 k n w kx0 kr) kx0 kr v
theorem l2_fix {R : Type} {k : Nat} {kx0 : ((List Int) × Int → Option R)} {kr : ((List Int) × Int × Bool → Option R)} (Inv : ((List Int) × Int × Int) → Prop) (μ : ((List Int) × Int × Int) → Nat) (G : ((List Int) × Int × Int) → Option R) (h : ∀ v rec, Inv v → (∀ w, Inv w → μ w < μ v → rec w = G w) → s2 k rec kx0 kr v = G v) : ∀ n v, Inv v → μ v < n → l2 k n v kx0 kr = G v := loop_fix (S := fun rec v => s2 k rec kx0 kr v) (fun _ _ => rfl) Inv μ G h
theorem l2_for {R : Type} {k : Nat} {kx0 : ((List Int) × Int → Option R)} {kr : ((List Int) × Int × Bool → Option R)} (N : Nat) (Inv : Nat → ((List Int)) → (Int) → Prop) (G : Nat → ((List Int)) → (Int) → Option R) (h : ∀ (i : Nat) (x0 : (List Int)) (x1 : Int) (rec : (List Int) × Int × Int → Option R), i ≤ N → Inv i x0 x1 → (∀ (x0' : (List Int)) (x1' : Int), i < N → Inv (i + 1) x0' x1' → rec (x0', x1', ((i : Int) + 1)) = G (i + 1) x0' x1') → s2 k rec kx0 kr (x0, x1, (i : Int)) = G i x0 x1) : ∀ (n i : Nat) (x0 : (List Int)) (x1 : Int), i ≤ N → Inv i x0 x1 → N - i < n → l2 k n (x0, x1, (i : Int)) kx0 kr = G i x0 x1 := by
  intro n
  induction n with
  | zero => intro i x0 x1 _ _ h0; omega
  | succ n ih =>
    intro i x0 x1 hi hv hn
    exact h i x0 x1 (fun w => l2 k n w kx0 kr) hi hv (fun x0' x1' hlt hv' => ih (i + 1) x0' x1' hlt hv' (by omega))
def f (k : Nat) (a0 : (List Int)) (a1 : Int) : (Option ((Bool × Unit) × (Unit))) :=
  (l2 k k (a0, a1, (0 : Int)) (fun (o1, o2) => (some (((((o1.length : Nat) : Int) == o2), ()), ()))) (fun (o3, o4, o5) => (some ((o5, ()), ()))))
end spec_l13Values

/-! ### loop.example/g00910/spec.l13Code -/
namespace spec_l13Code
def f (k : Nat) (a0 : (List Int)) (a1 : (List Int)) : (Option ((Int × Unit) × (Unit))) :=
  ((spec_l13Seats.f k ((a1.length : Nat) : Int)).bind fun r1 => (bif (!r1.1.1) then (some (((2 : Int), ()), ())) else ((spec_l13Winners.f k a0 ((a1.length : Nat) : Int)).bind fun r2 => (bif (!r2.1.1) then (some (((1 : Int), ()), ())) else ((spec_l13Values.f k a1 ((a1.length : Nat) : Int)).bind fun r3 => (bif (!r3.1.1) then (some (((2 : Int), ()), ())) else (some (((0 : Int), ()), ()))))))))
end spec_l13Code

/-! ### loop.example/g00910/spec.l13Best -/
namespace spec_l13Best
def s4 {R : Type} (k : Nat) (rec : (List Int) × (List Int) × Bool × Int × Int × (List Int) → Option R) (kx0 : ((List Int) → Option R)) : (List Int) × (List Int) × Bool × Int × Int × (List Int) → Option R := fun (x0, x1, x2, x8, x9, y0) =>
  (bif (decide (x9 < ((x0.length : Nat) : Int))) then (bif ((decide (0 ≤ x9)) && (decide (x9 < ((x0.length : Nat) : Int)))) then (bif ((decide (0 ≤ (x0.getD (Int.toNat x9) (0 : Int)))) && (decide ((x0.getD (Int.toNat x9) (0 : Int)) < ((x1.length : Nat) : Int)))) then (bif (decide ((x1.getD (Int.toNat (x0.getD (Int.toNat x9) (0 : Int))) (0 : Int)) < (0 : Int))) then (rec (x0, x1, x2, x8, (IntKind.wrap .i64 (x9 + (1 : Int))), y0)) else (bif (decide (x8 < (0 : Int))) then (bif ((decide (0 ≤ x9)) && (decide (x9 < ((x0.length : Nat) : Int)))) then (rec (x0, x1, x2, (x1.getD (Int.toNat (x0.getD (Int.toNat x9) (0 : Int))) (0 : Int)), (IntKind.wrap .i64 (x9 + (1 : Int))), ([(x0.getD (Int.toNat x9) (0 : Int))] : List Int))) else none) else (bif x2 then (bif (decide ((x1.getD (Int.toNat (x0.getD (Int.toNat x9) (0 : Int))) (0 : Int)) > x8)) then (bif ((decide (0 ≤ x9)) && (decide (x9 < ((x0.length : Nat) : Int)))) then (rec (x0, x1, x2, (x1.getD (Int.toNat (x0.getD (Int.toNat x9) (0 : Int))) (0 : Int)), (IntKind.wrap .i64 (x9 + (1 : Int))), ([(x0.getD (Int.toNat x9) (0 : Int))] : List Int))) else none) else (bif (!x2) then (bif (decide ((x1.getD (Int.toNat (x0.getD (Int.toNat x9) (0 : Int))) (0 : Int)) < x8)) then (bif ((decide (0 ≤ x9)) && (decide (x9 < ((x0.length : Nat) : Int)))) then (rec (x0, x1, x2, (x1.getD (Int.toNat (x0.getD (Int.toNat x9) (0 : Int))) (0 : Int)), (IntKind.wrap .i64 (x9 + (1 : Int))), ([(x0.getD (Int.toNat x9) (0 : Int))] : List Int))) else none) else (bif ((x1.getD (Int.toNat (x0.getD (Int.toNat x9) (0 : Int))) (0 : Int)) == x8) then (bif ((decide (0 ≤ x9)) && (decide (x9 < ((x0.length : Nat) : Int)))) then (bif (decide ((y0.length + ([(x0.getD (Int.toNat x9) (0 : Int))] : List Int).length) * 8 ≤ AM.maxBytes)) then (rec (x0, x1, x2, x8, (IntKind.wrap .i64 (x9 + (1 : Int))), (y0 ++ ([(x0.getD (Int.toNat x9) (0 : Int))] : List Int)))) else none) else none) else (rec (x0, x1, x2, x8, (IntKind.wrap .i64 (x9 + (1 : Int))), y0)))) else (bif ((x1.getD (Int.toNat (x0.getD (Int.toNat x9) (0 : Int))) (0 : Int)) == x8) then (bif ((decide (0 ≤ x9)) && (decide (x9 < ((x0.length : Nat) : Int)))) then (bif (decide ((y0.length + ([(x0.getD (Int.toNat x9) (0 : Int))] : List Int).length) * 8 ≤ AM.maxBytes)) then (rec (x0, x1, x2, x8, (IntKind.wrap .i64 (x9 + (1 : Int))), (y0 ++ ([(x0.getD (Int.toNat x9) (0 : Int))] : List Int)))) else none) else none) else (rec (x0, x1, x2, x8, (IntKind.wrap .i64 (x9 + (1 : Int))), y0))))) else (bif (!x2) then (bif (decide ((x1.getD (Int.toNat (x0.getD (Int.toNat x9) (0 : Int))) (0 : Int)) < x8)) then (bif ((decide (0 ≤ x9)) && (decide (x9 < ((x0.length : Nat) : Int)))) then (rec (x0, x1, x2, (x1.getD (Int.toNat (x0.getD (Int.toNat x9) (0 : Int))) (0 : Int)), (IntKind.wrap .i64 (x9 + (1 : Int))), ([(x0.getD (Int.toNat x9) (0 : Int))] : List Int))) else none) else (bif ((x1.getD (Int.toNat (x0.getD (Int.toNat x9) (0 : Int))) (0 : Int)) == x8) then (bif ((decide (0 ≤ x9)) && (decide (x9 < ((x0.length : Nat) : Int)))) then (bif (decide ((y0.length + ([(x0.getD (Int.toNat x9) (0 : Int))] : List Int).length) * 8 ≤ AM.maxBytes)) then (rec (x0, x1, x2, x8, (IntKind.wrap .i64 (x9 + (1 : Int))), (y0 ++ ([(x0.getD (Int.toNat x9) (0 : Int))] : List Int)))) else none) else none) else (rec (x0, x1, x2, x8, (IntKind.wrap .i64 (x9 + (1 : Int))), y0)))) else (bif ((x1.getD (Int.toNat (x0.getD (Int.toNat x9) (0 : Int))) (0 : Int)) == x8) then (bif ((decide (0 ≤ x9)) && (decide (x9 < ((x0.length : Nat) : Int)))) then (bif (decide ((y0.length + ([(x0.getD (Int.toNat x9) (0 : Int))] : List Int).length) * 8 ≤ AM.maxBytes)) then (rec (x0, x1, x2, x8, (IntKind.wrap .i64 (x9 + (1 : Int))), (y0 ++ ([(x0.getD (Int.toNat x9) (0 : Int))] : List Int)))) else none) else none) else (rec (x0, x1, x2, x8, (IntKind.wrap .i64 (x9 + (1 : Int))), y0))))))) else none) else none) else (kx0 y0))
def l4 {R : Type} (k : Nat) : Nat → (List Int) × (List Int) × Bool × Int × Int × (List Int) → ((List Int) → Option R) → Option R
  | 0, _, _ => none
  | n + 1, v, kx0 => s4 k (fun w => l4 k n w kx0) kx0 v
theorem l4_fix {R : Type} {k : Nat} {kx0 : ((List Int) → Option R)} (Inv : ((List Int) × (List Int) × Bool × Int × Int × (List Int)) → Prop) (μ : ((List Int) × (List Int) × Bool × Int × Int × (List Int)) → Nat) (G : ((List Int) × (List Int) × Bool × Int × Int × (List Int)) → Option R) (h : ∀ v rec, Inv v → (∀ w, Inv w → μ w < μ v → rec w = G w) → s4 k rec kx0 v = G v) : ∀ n v, Inv v → μ v < n → l4 k n v kx0 = G v := loop_fix (S := fun rec v => s4 k rec kx0 v) (fun _ _ => rfl) Inv μ G h
theorem l4_for {R : Type} {k : Nat} {kx0 : ((List Int) → Option R)} (N : Nat) (Inv : Nat → ((List Int)) → ((List Int)) → (Bool) → (Int) → ((List Int)) → Prop) (G : Nat → ((List Int)) → ((List Int)) → (Bool) → (Int) → ((List Int)) → Option R) (h : ∀ (i : Nat) (x0 : (List Int)) (x1 : (List Int)) (x2 : Bool) (x8 : Int) (y0 : (List Int)) (rec : (List Int) × (List Int) × Bool × Int × Int × (List Int) → Option R), i ≤ N → Inv i x0 x1 x2 x8 y0 → (∀ (x0' : (List Int)) (x1' : (List Int)) (x2' : Bool) (x8' : Int) (y0' : (List Int)), i < N → Inv (i + 1) x0' x1' x2' x8' y0' → rec (x0', x1', x2', x8', ((i : Int) + 1), y0') = G (i + 1) x0' x1' x2' x8' y0') → s4 k rec kx0 (x0, x1, x2, x8, (i : Int), y0) = G i x0 x1 x2 x8 y0) : ∀ (n i : Nat) (x0 : (List Int)) (x1 : (List Int)) (x2 : Bool) (x8 : Int) (y0 : (List Int)), i ≤ N → Inv i x0 x1 x2 x8 y0 → N - i < n → l4 k n (x0, x1, x2, x8, (i : Int), y0) kx0 = G i x0 x1 x2 x8 y0 := by
  intro n
  induction n with
  | zero => intro i x0 x1 x2 x8 y0 _ _ h0; omega
  | succ n ih =>
    intro i x0 x1 x2 x8 y0 hi hv hn
    exact h i x0 x1 x2 x8 y0 (fun w => l4 k n w kx0) hi hv (fun x0' x1' x2' x8' y0' hlt hv' => ih (i + 1) x0' x1' x2' x8' y0' hlt hv' (by omega))
def f (k : Nat) (a0 : (List Int)) (a1 : (List Int)) (a2 : Bool) : (Option (((List Int) × Unit) × (Unit))) :=
  (l4 k k (a0, a1, a2, (-1 : Int), (0 : Int), ([] : List Int)) (fun o1 => (some ((o1, ()), ()))))
end spec_l13Best

/-! ### loop.example/g00910/spec.l13Some -/
namespace spec_l13Some
def f (k : Nat) (a0 : (List Int)) (a1 : (List Int)) (a2 : Bool) : (Option (((List Int) × Int × Unit) × (Unit))) :=
  ((spec_l13Code.f k a0 a1).bind fun r1 => (bif (r1.1.1 != (0 : Int)) then (some ((([] : List Int), (r1.1.1, ())), ())) else ((spec_l13Best.f k a0 a1 a2).bind fun r2 => (bif (((r2.1.1.length : Nat) : Int) == (0 : Int)) then (some ((([] : List Int), ((4 : Int), ())), ())) else (some ((r2.1.1, ((0 : Int), ())), ()))))))
end spec_l13Some

/-! ### loop.example/g00910/spec.HighWinners -/
namespace spec_HighWinners
def f (k : Nat) (a0 : (List Int)) (a1 : (List Int)) : (Option (((List Int) × Int × Unit) × (Unit))) :=
  ((spec_l13Some.f k a0 a1 true).bind fun r1 => (some ((r1.1.1, (r1.1.2.1, ())), ())))
end spec_HighWinners

/-! ### loop.example/g00910/impl.areValues$1 -/
namespace impl_areValues_1
def f (k : Nat) (a0 : Int) : (Option ((Bool × Unit) × (Unit))) :=
  (some (((decide (a0 < (-1 : Int))), ()), ()))
end impl_areValues_1

/-! ### loop.example/g00910/impl.areValues -/
namespace impl_areValues
def i1001_i1002_s2 {R : Type} (k : Nat) (rec : (List Int) × Int × Int → Option R) (kx0 : (Unit → Option R)) (kr : (Int → Option R)) : (List Int) × Int × Int → Option R := fun (x0, x7, x8) =>
  (bif (decide (x8 < x7)) then (bif ((decide (0 ≤ x8)) && (decide (x8 < ((x0.length : Nat) : Int)))) then ((impl_areValues_1.f k (x0.getD (Int.toNat x8) (0 : Int))).bind fun r1 => (bif r1.1.1 then (kr x8) else (rec (x0, x7, (IntKind.wrap .i64 (x8 + (1 : Int))))))) else none) else (kx0 ()))
def i1001_i1002_l2 {R : Type} (k : Nat) : Nat → (List Int) × Int × Int → (Unit → Option R) → (Int → Option R) → Option R
  | 0, _, _, _ => none
  | n + 1, v, kx0, kr => i1001_i1002_s2 k (fun w => i1001_i1002_l2 k n w kx0 kr) kx0 kr v
theorem i1001_i1002_l2_fix {R : Type} {k : Nat} {kx0 : (Unit → Option R)} {kr : (Int → Option R)} (Inv : ((List Int) × Int × Int) → Prop) (μ : ((List Int) × Int × Int) → Nat) (G : ((List Int) × Int × Int) → Option R) (h : ∀ v rec, Inv v → (∀ w, Inv w → μ w < μ v → rec w = G w) → i1001_i1002_s2 k rec kx0 kr v = G v) : ∀ n v, Inv v → μ v < n → i1001_i1002_l2 k n v kx0 kr = G v := loop_fix (S := fun rec v => i1001_i1002_s2 k rec kx0 kr v) (fun _ _ => rfl) Inv μ G h
theorem i1001_i1002_l2_for {R : Type} {k : Nat} {kx0 : (Unit → Option R)} {kr : (Int → Option R)} (N : Nat) (Inv : Nat → ((List Int)) → (Int) → Prop) (G : Nat → ((List Int)) → (Int) → Option R) (h : ∀ (i : Nat) (x0 : (List Int)) (x7 : Int) (rec : (List Int) × Int × Int → Option R), i ≤ N → Inv i x0 x7 → (∀ (x0' : (List Int)) (x7' : Int), i < N → Inv (i + 1) x0' x7' → rec (x0', x7', ((i : Int) + 1)) = G (i + 1) x0' x7') → i1001_i1002_s2 k rec kx0 kr (x0, x7, (i : Int)) = G i x0 x7) : ∀ (n i : Nat) (x0 : (List Int)) (x7 : Int), i ≤ N → Inv i x0 x7 → N - i < n → i1001_i1002_l2 k n (x0, x7, (i : Int)) kx0 kr = G i x0 x7 := by
  intro n
  induction n with
  | zero => intro i x0 x7 _ _ h0; omega
  | succ n ih =>
    intro i x0 x7 hi hv hn
    exact h i x0 x7 (fun w => i1001_i1002_l2 k n w kx0 kr) hi hv (fun x0' x7' hlt hv' => ih (i + 1) x0' x7' hlt hv' (by omega))
def f (k : Nat) (a0 : (List Int)) : (Option ((Bool × Unit) × (Unit))) :=
  (i1001_i1002_l2 k k (a0, ((a0.length : Nat) : Int), (0 : Int)) (fun (_ : Unit) => (some (((!(decide ((-1 : Int) ≥ (0 : Int)))), ()), ()))) (fun o2 => (some (((!(decide (o2 ≥ (0 : Int)))), ()), ()))))
end impl_areValues

/-! ### loop.example/g00910/impl.checkValues -/
namespace impl_checkValues
def f (k : Nat) (a0 : (List Int)) (a1 : (List Int)) : (Option ((Int × Unit) × (Unit))) :=
  ((impl_within.f k ((a1.length : Nat) : Int) (2 : Int) (6 : Int)).bind fun r1 => (bif (!r1.1.1) then (some (((2 : Int), ()), ())) else ((impl_areWinners.f k a0 ((a1.length : Nat) : Int)).bind fun r2 => (bif (!r2.1.1) then (some (((1 : Int), ()), ())) else ((impl_areValues.f k a1).bind fun r3 => (bif (!r3.1.1) then (some (((2 : Int), ()), ())) else (some (((0 : Int), ()), ()))))))))
end impl_checkValues

/-! ### loop.example/g00910/impl.highWinners -/
namespace impl_highWinners
def s4 {R : Type} (k : Nat) (rec : (List Int) × Int × (List Int) × Int × Int × (List Int) → Option R) (kx0 : ((List Int) → Option R)) : (List Int) × Int × (List Int) × Int × Int × (List Int) → Option R := fun (x1, x6, x9, x10, x11, y0) =>
  (bif (decide (x11 < x10)) then (bif ((decide (0 ≤ x11)) && (decide (x11 < ((x9.length : Nat) : Int)))) then (bif ((decide (0 ≤ (x9.getD (Int.toNat x11) (0 : Int)))) && (decide ((x9.getD (Int.toNat x11) (0 : Int)) < ((x1.length : Nat) : Int)))) then (bif (decide ((x1.getD (Int.toNat (x9.getD (Int.toNat x11) (0 : Int))) (0 : Int)) > x6)) then (bif ((decide (0 ≤ (x9.getD (Int.toNat x11) (0 : Int)))) && (decide ((x9.getD (Int.toNat x11) (0 : Int)) < ((x1.length : Nat) : Int)))) then (bif ((decide (0 ≤ (x9.getD (Int.toNat x11) (0 : Int)))) && (decide ((x9.getD (Int.toNat x11) (0 : Int)) < ((x1.length : Nat) : Int)))) then (bif ((x1.getD (Int.toNat (x9.getD (Int.toNat x11) (0 : Int))) (0 : Int)) == (x1.getD (Int.toNat (x9.getD (Int.toNat x11) (0 : Int))) (0 : Int))) then (bif (decide (([(x9.getD (Int.toNat x11) (0 : Int))] : List Int).length * 8 ≤ AM.maxBytes)) then (rec (x1, (x1.getD (Int.toNat (x9.getD (Int.toNat x11) (0 : Int))) (0 : Int)), x9, x10, (IntKind.wrap .i64 (x11 + (1 : Int))), ([(x9.getD (Int.toNat x11) (0 : Int))] : List Int))) else none) else (rec (x1, (x1.getD (Int.toNat (x9.getD (Int.toNat x11) (0 : Int))) (0 : Int)), x9, x10, (IntKind.wrap .i64 (x11 + (1 : Int))), ([] : List Int)))) else none) else none) else (bif ((decide (0 ≤ (x9.getD (Int.toNat x11) (0 : Int)))) && (decide ((x9.getD (Int.toNat x11) (0 : Int)) < ((x1.length : Nat) : Int)))) then (bif ((x1.getD (Int.toNat (x9.getD (Int.toNat x11) (0 : Int))) (0 : Int)) == x6) then (bif (decide ((y0.length + ([(x9.getD (Int.toNat x11) (0 : Int))] : List Int).length) * 8 ≤ AM.maxBytes)) then (rec (x1, x6, x9, x10, (IntKind.wrap .i64 (x11 + (1 : Int))), (y0 ++ ([(x9.getD (Int.toNat x11) (0 : Int))] : List Int)))) else none) else (rec (x1, x6, x9, x10, (IntKind.wrap .i64 (x11 + (1 : Int))), y0))) else none)) else none) else none) else (kx0 y0))
def l4 {R : Type} (k : Nat) : Nat → (List Int) × Int × (List Int) × Int × Int × (List Int) → ((List Int) → Option R) → Option R
  | 0, _, _ => none
  | n + 1, v, kx0 => s4 k (fun w => l4 k n w kx0) kx0 v
theorem l4_fix {R : Type} {k : Nat} {kx0 : ((List Int) → Option R)} (Inv : ((List Int) × Int × (List Int) × Int × Int × (List Int)) → Prop) (μ : ((List Int) × Int × (List Int) × Int × Int × (List Int)) → Nat) (G : ((List Int) × Int × (List Int) × Int × Int × (List Int)) → Option R) (h : ∀ v rec, Inv v → (∀ w, Inv w → μ w < μ v → rec w = G w) → s4 k rec kx0 v = G v) : ∀ n v, Inv v → μ v < n → l4 k n v kx0 = G v := loop_fix (S := fun rec v => s4 k rec kx0 v) (fun _ _ => rfl) Inv μ G h
theorem l4_for {R : Type} {k : Nat} {kx0 : ((List Int) → Option R)} (N : Nat) (Inv : Nat → ((List Int)) → (Int) → ((List Int)) → (Int) → ((List Int)) → Prop) (G : Nat → ((List Int)) → (Int) → ((List Int)) → (Int) → ((List Int)) → Option R) (h : ∀ (i : Nat) (x1 : (List Int)) (x6 : Int) (x9 : (List Int)) (x10 : Int) (y0 : (List Int)) (rec : (List Int) × Int × (List Int) × Int × Int × (List Int) → Option R), i ≤ N → Inv i x1 x6 x9 x10 y0 → (∀ (x1' : (List Int)) (x6' : Int) (x9' : (List Int)) (x10' : Int) (y0' : (List Int)), i < N → Inv (i + 1) x1' x6' x9' x10' y0' → rec (x1', x6', x9', x10', ((i : Int) + 1), y0') = G (i + 1) x1' x6' x9' x10' y0') → s4 k rec kx0 (x1, x6, x9, x10, (i : Int), y0) = G i x1 x6 x9 x10 y0) : ∀ (n i : Nat) (x1 : (List Int)) (x6 : Int) (x9 : (List Int)) (x10 : Int) (y0 : (List Int)), i ≤ N → Inv i x1 x6 x9 x10 y0 → N - i < n → l4 k n (x1, x6, x9, x10, (i : Int), y0) kx0 = G i x1 x6 x9 x10 y0 := by
  intro n
  induction n with
  | zero => intro i x1 x6 x9 x10 y0 _ _ h0; omega
  | succ n ih =>
    intro i x1 x6 x9 x10 y0 hi hv hn
    exact h i x1 x6 x9 x10 y0 (fun w => l4 k n w kx0) hi hv (fun x1' x6' x9' x10' y0' hlt hv' => ih (i + 1) x1' x6' x9' x10' y0' hlt hv' (by omega))
def f (k : Nat) (a0 : (List Int)) (a1 : (List Int)) : (Option (((List Int) × Unit) × (Unit))) :=
  (l4 k k (a1, (0 : Int), a0, ((a0.length : Nat) : Int), (0 : Int), ([] : List Int)) (fun o1 => (some ((o1, ()), ()))))
end impl_highWinners

/-! ### loop.example/g00910/impl.HighWinners -/
namespace impl_HighWinners
def f (k : Nat) (a0 : (List Int)) (a1 : (List Int)) : (Option (((List Int) × Int × Unit) × (Unit))) :=
  ((impl_checkValues.f k a0 a1).bind fun r1 => (bif (r1.1.1 != (0 : Int)) then (some ((([] : List Int), (r1.1.1, ())), ())) else ((impl_highWinners.f k a0 a1).bind fun r2 => (bif (((r2.1.1.length : Nat) : Int) == (0 : Int)) then (some ((([] : List Int), ((4 : Int), ())), ())) else (some ((r2.1.1, ((0 : Int), ())), ()))))))
end impl_HighWinners

/-! ### loop.example/g00910/spec.LowWinners -/
namespace spec_LowWinners
def f (k : Nat) (a0 : (List Int)) (a1 : (List Int)) : (Option (((List Int) × Int × Unit) × (Unit))) :=
  ((spec_l13Some.f k a0 a1 false).bind fun r1 => (some ((r1.1.1, (r1.1.2.1, ())), ())))
end spec_LowWinners

/-! ### loop.example/g00910/impl.lowWinners -/
namespace impl_lowWinners
def s4 {R : Type} (k : Nat) (rec : (List Int) × Int × (List Int) × Int × Int × (List Int) → Option R) (kx0 : ((List Int) → Option R)) : (List Int) × Int × (List Int) × Int × Int × (List Int) → Option R := fun (x1, x6, x9, x10, x11, y0) =>
  (bif (decide (x11 < x10)) then (bif ((decide (0 ≤ x11)) && (decide (x11 < ((x9.length : Nat) : Int)))) then (bif ((decide (0 ≤ (x9.getD (Int.toNat x11) (0 : Int)))) && (decide ((x9.getD (Int.toNat x11) (0 : Int)) < ((x1.length : Nat) : Int)))) then (bif (decide ((x1.getD (Int.toNat (x9.getD (Int.toNat x11) (0 : Int))) (0 : Int)) < (0 : Int))) then (rec (x1, x6, x9, x10, (IntKind.wrap .i64 (x11 + (1 : Int))), y0)) else (bif (decide (x6 < (0 : Int))) then (bif ((decide (0 ≤ (x9.getD (Int.toNat x11) (0 : Int)))) && (decide ((x9.getD (Int.toNat x11) (0 : Int)) < ((x1.length : Nat) : Int)))) then (bif ((decide (0 ≤ (x9.getD (Int.toNat x11) (0 : Int)))) && (decide ((x9.getD (Int.toNat x11) (0 : Int)) < ((x1.length : Nat) : Int)))) then (bif ((x1.getD (Int.toNat (x9.getD (Int.toNat x11) (0 : Int))) (0 : Int)) == (x1.getD (Int.toNat (x9.getD (Int.toNat x11) (0 : Int))) (0 : Int))) then (bif (decide (([(x9.getD (Int.toNat x11) (0 : Int))] : List Int).length * 8 ≤ AM.maxBytes)) then (rec (x1, (x1.getD (Int.toNat (x9.getD (Int.toNat x11) (0 : Int))) (0 : Int)), x9, x10, (IntKind.wrap .i64 (x11 + (1 : Int))), ([(x9.getD (Int.toNat x11) (0 : Int))] : List Int))) else none) else (rec (x1, (x1.getD (Int.toNat (x9.getD (Int.toNat x11) (0 : Int))) (0 : Int)), x9, x10, (IntKind.wrap .i64 (x11 + (1 : Int))), ([] : List Int)))) else none) else none) else (bif ((decide (0 ≤ (x9.getD (Int.toNat x11) (0 : Int)))) && (decide ((x9.getD (Int.toNat x11) (0 : Int)) < ((x1.length : Nat) : Int)))) then (bif (decide ((x1.getD (Int.toNat (x9.getD (Int.toNat x11) (0 : Int))) (0 : Int)) < x6)) then (bif ((decide (0 ≤ (x9.getD (Int.toNat x11) (0 : Int)))) && (decide ((x9.getD (Int.toNat x11) (0 : Int)) < ((x1.length : Nat) : Int)))) then (bif ((decide (0 ≤ (x9.getD (Int.toNat x11) (0 : Int)))) && (decide ((x9.getD (Int.toNat x11) (0 : Int)) < ((x1.length : Nat) : Int)))) then (bif ((x1.getD (Int.toNat (x9.getD (Int.toNat x11) (0 : Int))) (0 : Int)) == (x1.getD (Int.toNat (x9.getD (Int.toNat x11) (0 : Int))) (0 : Int))) then (bif (decide (([(x9.getD (Int.toNat x11) (0 : Int))] : List Int).length * 8 ≤ AM.maxBytes)) then (rec (x1, (x1.getD (Int.toNat (x9.getD (Int.toNat x11) (0 : Int))) (0 : Int)), x9, x10, (IntKind.wrap .i64 (x11 + (1 : Int))), ([(x9.getD (Int.toNat x11) (0 : Int))] : List Int))) else none) else (rec (x1, (x1.getD (Int.toNat (x9.getD (Int.toNat x11) (0 : Int))) (0 : Int)), x9, x10, (IntKind.wrap .i64 (x11 + (1 : Int))), ([] : List Int)))) else none) else none) else (bif ((decide (0 ≤ (x9.getD (Int.toNat x11) (0 : Int)))) && (decide ((x9.getD (Int.toNat x11) (0 : Int)) < ((x1.length : Nat) : Int)))) then (bif ((x1.getD (Int.toNat (x9.getD (Int.toNat x11) (0 : Int))) (0 : Int)) == x6) then (bif (decide ((y0.length + ([(x9.getD (Int.toNat x11) (0 : Int))] : List Int).length) * 8 ≤ AM.maxBytes)) then (rec (x1, x6, x9, x10, (IntKind.wrap .i64 (x11 + (1 : Int))), (y0 ++ ([(x9.getD (Int.toNat x11) (0 : Int))] : List Int)))) else none) else (rec (x1, x6, x9, x10, (IntKind.wrap .i64 (x11 + (1 : Int))), y0))) else none)) else none))) else none) else none) else (kx0 y0))
def l4 {R : Type} (k : Nat) : Nat → (List Int) × Int × (List Int) × Int × Int × (List Int) → ((List Int) → Option R) → Option R
  | 0, _, _ => none
  | n + 1, v, kx0 => s4 k (fun w => l4 k n w kx0) kx0 v
theorem l4_fix {R : Type} {k : Nat} {kx0 : ((List Int) → Option R)} (Inv : ((List Int) × Int × (List Int) × Int × Int × (List Int)) → Prop) (μ : ((List Int) × Int × (List Int) × Int × Int × (List Int)) → Nat) (G : ((List Int) × Int × (List Int) × Int × Int × (List Int)) → Option R) (h : ∀ v rec, Inv v → (∀ w, Inv w → μ w < μ v → rec w = G w) → s4 k rec kx0 v = G v) : ∀ n v, Inv v → μ v < n → l4 k n v kx0 = G v := loop_fix (S := fun rec v => s4 k rec kx0 v) (fun _ _ => rfl) Inv μ G h
theorem l4_for {R : Type} {k : Nat} {kx0 : ((List Int) → Option R)} (N : Nat) (Inv : Nat → ((List Int)) → (Int) → ((List Int)) → (Int) → ((List Int)) → Prop) (G : Nat → ((List Int)) → (Int) → ((List Int)) → (Int) → ((List Int)) → Option R) (h : ∀ (i : Nat) (x1 : (List Int)) (x6 : Int) (x9 : (List Int)) (x10 : Int) (y0 : (List Int)) (rec : (List Int) × Int × (List Int) × Int × Int × (List Int) → Option R), i ≤ N → Inv i x1 x6 x9 x10 y0 → (∀ (x1' : (List Int)) (x6' : Int) (x9' : (List Int)) (x10' : Int) (y0' : (List Int)), i < N → Inv (i + 1) x1' x6' x9' x10' y0' → rec (x1', x6', x9', x10', ((i : Int) + 1), y0') = G (i + 1) x1' x6' x9' x10' y0') → s4 k rec kx0 (x1, x6, x9, x10, (i : Int), y0) = G i x1 x6 x9 x10 y0) : ∀ (n i : Nat) (x1 : (List Int)) (x6 : Int) (x9 : (List Int)) (x10 : Int) (y0 : (List Int)), i ≤ N → Inv i x1 x6 x9 x10 y0 → N - i < n → l4 k n (x1, x6, x9, x10, (i : Int), y0) kx0 = G i x1 x6 x9 x10 y0 := by
  intro n
  induction n with
  | zero => intro i x1 x6 x9 x10 y0 _ _ h0; omega
  | succ n ih =>
    intro i x1 x6 x9 x10 y0 hi hv hn
    exact h i x1 x6 x9 x10 y0 (fun w => l4 k n w kx0) hi hv (fun x1' x6' x9' x10' y0' hlt hv' => ih (i + 1) x1' x6' x9' x10' y0' hlt hv' (by omega))
def f (k : Nat) (a0 : (List Int)) (a1 : (List Int)) : (Option (((List Int) × Unit) × (Unit))) :=
  (l4 k k (a1, (-1 : Int), a0, ((a0.length : Nat) : Int), (0 : Int), ([] : List Int)) (fun o1 => (some ((o1, ()), ()))))
end impl_lowWinners

/-! ### loop.example/g00910/impl.LowWinners -/
namespace impl_LowWinners
def f (k : Nat) (a0 : (List Int)) (a1 : (List Int)) : (Option (((List Int) × Int × Unit) × (Unit))) :=
  ((impl_checkValues.f k a0 a1).bind fun r1 => (bif (r1.1.1 != (0 : Int)) then (some ((([] : List Int), (r1.1.1, ())), ())) else ((impl_lowWinners.f k a0 a1).bind fun r2 => (bif (((r2.1.1.length : Nat) : Int) == (0 : Int)) then (some ((([] : List Int), ((4 : Int), ())), ())) else (some ((r2.1.1, ((0 : Int), ())), ()))))))
end impl_LowWinners

/-! ### loop.example/g00910/laws.big -/
namespace laws_big
def f (k : Nat) (a0 : (List Int)) : (Option ((Bool × Unit) × (Unit))) :=
  (some (((decide (((a0.length : Nat) : Int) > (4096 : Int))), ()), ()))
end laws_big

/-! ### loop.example/g00910/spec.l01Next -/
namespace spec_l01Next
def f (k : Nat) (a0 : ((List Int) × (Int × (Int × Unit)))) (a1 : Int) : (Option ((Int × Unit) × (((List Int) × (Int × (Int × Unit))) × Unit))) :=
  (bif (decide (a1 ≤ (1 : Int))) then (some (((0 : Int), ()), ((a0.1, (a0.2.1, (a0.2.2.1, ()))), ()))) else (bif (!(decide ((2147483647 : Int) = 0))) then (bif (!(decide ((31 : Int) = 0))) then (bif (decide (a0.2.1 < ((a0.1.length : Nat) : Int))) then (bif ((decide (0 ≤ a0.2.1)) && (decide (a0.2.1 < ((a0.1.length : Nat) : Int)))) then (bif (decide (a1 ≤ (256 : Int))) then (bif (!(decide ((2 : Int) = 0))) then (bif ((Int.tmod (IntKind.wrap .i64 (a0.2.1 + (1 : Int))) (2 : Int)) == (0 : Int)) then (bif ((decide (0 ≤ (IntKind.wrap .i64 ((IntKind.wrap .i64 (a0.2.1 + (1 : Int))) - (1 : Int))))) && (decide ((IntKind.wrap .i64 ((IntKind.wrap .i64 (a0.2.1 + (1 : Int))) - (1 : Int))) < ((a0.1.length : Nat) : Int)))) then (bif (!(decide (a1 = 0))) then (some (((Int.tmod (IntKind.wrap .i64 (a0.1.getD (Int.toNat (IntKind.wrap .i64 ((IntKind.wrap .i64 (a0.2.1 + (1 : Int))) - (1 : Int)))) (0 : Int))) a1), ()), ((a0.1, ((IntKind.wrap .i64 (a0.2.1 + (1 : Int))), ((Int.tmod (IntKind.wrap .i64 ((IntKind.wrap .i64 (a0.2.2.1 * (48271 : Int))) + (29 : Int))) (2147483647 : Int)), ()))), ()))) else none) else none) else (bif (!(decide (a1 = 0))) then (some (((Int.tmod (IntKind.wrap .i64 ((IntKind.wrap .i64 (Int.tdiv (Int.tmod (IntKind.wrap .i64 ((IntKind.wrap .i64 (a0.2.2.1 * (48271 : Int))) + (29 : Int))) (2147483647 : Int)) (31 : Int))) + (IntKind.wrap .i64 (a0.1.getD (Int.toNat a0.2.1) (0 : Int))))) a1), ()), ((a0.1, ((IntKind.wrap .i64 (a0.2.1 + (1 : Int))), ((Int.tmod (IntKind.wrap .i64 ((IntKind.wrap .i64 (a0.2.2.1 * (48271 : Int))) + (29 : Int))) (2147483647 : Int)), ()))), ()))) else none)) else none) else (bif (!(decide (a1 = 0))) then (some (((Int.tmod (IntKind.wrap .i64 ((IntKind.wrap .i64 (Int.tdiv (Int.tmod (IntKind.wrap .i64 ((IntKind.wrap .i64 (a0.2.2.1 * (48271 : Int))) + (29 : Int))) (2147483647 : Int)) (31 : Int))) + (IntKind.wrap .i64 (a0.1.getD (Int.toNat a0.2.1) (0 : Int))))) a1), ()), ((a0.1, ((IntKind.wrap .i64 (a0.2.1 + (1 : Int))), ((Int.tmod (IntKind.wrap .i64 ((IntKind.wrap .i64 (a0.2.2.1 * (48271 : Int))) + (29 : Int))) (2147483647 : Int)), ()))), ()))) else none)) else none) else (bif (!(decide (a1 = 0))) then (some (((Int.tmod (IntKind.wrap .i64 (Int.tdiv (Int.tmod (IntKind.wrap .i64 ((IntKind.wrap .i64 (a0.2.2.1 * (48271 : Int))) + (29 : Int))) (2147483647 : Int)) (31 : Int))) a1), ()), ((a0.1, (a0.2.1, ((Int.tmod (IntKind.wrap .i64 ((IntKind.wrap .i64 (a0.2.2.1 * (48271 : Int))) + (29 : Int))) (2147483647 : Int)), ()))), ()))) else none)) else none) else none))
end spec_l01Next

/-! ### loop.example/g00910/spec.l01Pick -/
namespace spec_l01Pick
def f (k : Nat) (a0 : ((List Int) × (Int × (Int × Unit)))) (a1 : (List Int)) : (Option ((Int × Unit) × (((List Int) × (Int × (Int × Unit))) × Unit))) :=
  ((spec_l01Next.f k (a0.1, (a0.2.1, (a0.2.2.1, ()))) ((a1.length : Nat) : Int)).bind fun r1 => (bif ((decide (0 ≤ r1.1.1)) && (decide (r1.1.1 < ((a1.length : Nat) : Int)))) then (some (((a1.getD (Int.toNat r1.1.1) (0 : Int)), ()), ((r1.2.1.1, (r1.2.1.2.1, (r1.2.1.2.2.1, ()))), ()))) else none))
end spec_l01Pick

/-! ### loop.example/g00910/spec.l13DrawSeats -/
namespace spec_l13DrawSeats
def f (k : Nat) (a0 : ((List Int) × (Int × (Int × Unit)))) : (Option ((Int × Unit) × (((List Int) × (Int × (Int × Unit))) × Unit))) :=
  ((spec_l01Next.f k (a0.1, (a0.2.1, (a0.2.2.1, ()))) (16 : Int)).bind fun r1 => (bif (r1.1.1 == (0 : Int)) then ((spec_l01Pick.f k (r1.2.1.1, (r1.2.1.2.1, (r1.2.1.2.2.1, ()))) ([(1 : Int), (7 : Int), (0 : Int)] : List Int)).bind fun r2 => (some ((r2.1.1, ()), ((r2.2.1.1, (r2.2.1.2.1, (r2.2.1.2.2.1, ()))), ())))) else ((spec_l01Next.f k (r1.2.1.1, (r1.2.1.2.1, (r1.2.1.2.2.1, ()))) (5 : Int)).bind fun r3 => (some (((IntKind.wrap .i64 ((2 : Int) + r3.1.1)), ()), ((r3.2.1.1, (r3.2.1.2.1, (r3.2.1.2.2.1, ()))), ()))))))
end spec_l13DrawSeats

/-! ### loop.example/g00910/spec.l13DrawWinners -/
namespace spec_l13DrawWinners
def s3 {R : Type} (k : Nat) (rec : Int × Int × (List Int) × Int × Int × (List Int) → Option R) (kx0 : (Int × (List Int) × Int × Int × (List Int) → Option R)) : Int × Int × (List Int) × Int × Int × (List Int) → Option R := fun (x1, x6, z0_0, z0_1, z0_2, y1) =>
  (bif (decide (x6 < x1)) then ((spec_l01Next.f k (z0_0, (z0_1, (z0_2, ()))) (2 : Int)).bind fun r1 => (bif (r1.1.1 == (0 : Int)) then (bif (decide ((y1.length + ([x6] : List Int).length) * 8 ≤ AM.maxBytes)) then (rec (x1, (IntKind.wrap .i64 (x6 + (1 : Int))), r1.2.1.1, r1.2.1.2.1, r1.2.1.2.2.1, (y1 ++ ([x6] : List Int)))) else none) else (rec (x1, (IntKind.wrap .i64 (x6 + (1 : Int))), r1.2.1.1, r1.2.1.2.1, r1.2.1.2.2.1, y1)))) else (kx0 (x1, z0_0, z0_1, z0_2, y1)))
def l3 {R : Type} (k : Nat) : Nat → Int × Int × (List Int) × Int × Int × (List Int) → (Int × (List Int) × Int × Int × (List Int) → Option R) → Option R
  | 0, _, _ => none
  | n + 1, v, kx0 => s3 k (fun w => l3 k n w kx0) kx0 v
theorem l3_fix {R : Type} {k : Nat} {kx0 : (Int × (List Int) × Int × Int × (List Int) → Option R)} (Inv : (Int × Int × (List Int) × Int × Int × (List Int)) → Prop) (μ : (Int × Int × (List Int) × Int × Int × (List Int)) → Nat) (G : (Int × Int × (List Int) × Int × Int × (List Int)) → Option R) (h : ∀ v rec, Inv v → (∀ w, Inv w → μ w < μ v → rec w = G w) → s3 k rec kx0 v = G v) : ∀ n v, Inv v → μ v < n → l3 k n v kx0 = G v := loop_fix (S := fun rec v => s3 k rec kx0 v) (fun _ _ => rfl) Inv μ G h
theorem l3_for {R : Type} {k : Nat} {kx0 : (Int × (List Int) × Int × Int × (List Int) → Option R)} (N : Nat) (Inv : Nat → (Int) → ((List Int)) → (Int) → (Int) → ((List Int)) → Prop) (G : Nat → (Int) → ((List Int)) → (Int) → (Int) → ((List Int)) → Option R) (h : ∀ (i : Nat) (x1 : Int) (z0_0 : (List Int)) (z0_1 : Int) (z0_2 : Int) (y1 : (List Int)) (rec : Int × Int × (List Int) × Int × Int × (List Int) → Option R), i ≤ N → Inv i x1 z0_0 z0_1 z0_2 y1 → (∀ (x1' : Int) (z0_0' : (List Int)) (z0_1' : Int) (z0_2' : Int) (y1' : (List Int)), i < N → Inv (i + 1) x1' z0_0' z0_1' z0_2' y1' → rec (x1', ((i : Int) + 1), z0_0', z0_1', z0_2', y1') = G (i + 1) x1' z0_0' z0_1' z0_2' y1') → s3 k rec kx0 (x1, (i : Int), z0_0, z0_1, z0_2, y1) = G i x1 z0_0 z0_1 z0_2 y1) : ∀ (n i : Nat) (x1 : Int) (z0_0 : (List Int)) (z0_1 : Int) (z0_2 : Int) (y1 : (List Int)), i ≤ N → Inv i x1 z0_0 z0_1 z0_2 y1 → N - i < n → l3 k n (x1, (i : Int), z0_0, z0_1, z0_2, y1) kx0 = G i x1 z0_0 z0_1 z0_2 y1 := by
  intro n
  induction n with
  | zero => intro i x1 z0_0 z0_1 z0_2 y1 _ _ h0; omega
  | succ n ih =>
    intro i x1 z0_0 z0_1 z0_2 y1 hi hv hn
    exact h i x1 z0_0 z0_1 z0_2 y1 (fun w => l3 k n w kx0) hi hv (fun x1' z0_0' z0_1' z0_2' y1' hlt hv' => ih (i + 1) x1' z0_0' z0_1' z0_2' y1' hlt hv' (by omega))
def f (k : Nat) (a0 : ((List Int) × (Int × (Int × Unit)))) (a1 : Int) : (Option (((List Int) × Unit) × (((List Int) × (Int × (Int × Unit))) × Unit))) :=
  (l3 k k (a1, (0 : Int), a0.1, a0.2.1, a0.2.2.1, ([] : List Int)) (fun (o2, o3, o4, o5, o6) => (bif (((o6.length : Nat) : Int) == (0 : Int)) then ((spec_l01Next.f k (o3, (o4, (o5, ()))) (8 : Int)).bind fun r7 => (bif (decide (r7.1.1 > (0 : Int))) then (bif (decide ((o6.length + ([(0 : Int)] : List Int).length) * 8 ≤ AM.maxBytes)) then ((spec_l01Next.f k (r7.2.1.1, (r7.2.1.2.1, (r7.2.1.2.2.1, ()))) (20 : Int)).bind fun r8 => (bif (r8.1.1 == (0 : Int)) then ((spec_l01Pick.f k (r8.2.1.1, (r8.2.1.2.1, (r8.2.1.2.2.1, ()))) ([(0 : Int), o2] : List Int)).bind fun r9 => (bif (decide (((o6 ++ ([(0 : Int)] : List Int)).length + ([r9.1.1] : List Int).length) * 8 ≤ AM.maxBytes)) then (some ((((o6 ++ ([(0 : Int)] : List Int)) ++ ([r9.1.1] : List Int)), ()), ((r9.2.1.1, (r9.2.1.2.1, (r9.2.1.2.2.1, ()))), ()))) else none)) else (some (((o6 ++ ([(0 : Int)] : List Int)), ()), ((r8.2.1.1, (r8.2.1.2.1, (r8.2.1.2.2.1, ()))), ()))))) else none) else ((spec_l01Next.f k (r7.2.1.1, (r7.2.1.2.1, (r7.2.1.2.2.1, ()))) (20 : Int)).bind fun r10 => (bif (r10.1.1 == (0 : Int)) then ((spec_l01Pick.f k (r10.2.1.1, (r10.2.1.2.1, (r10.2.1.2.2.1, ()))) ([(0 : Int), o2] : List Int)).bind fun r11 => (bif (decide ((o6.length + ([r11.1.1] : List Int).length) * 8 ≤ AM.maxBytes)) then (some (((o6 ++ ([r11.1.1] : List Int)), ()), ((r11.2.1.1, (r11.2.1.2.1, (r11.2.1.2.2.1, ()))), ()))) else none)) else (some ((o6, ()), ((r10.2.1.1, (r10.2.1.2.1, (r10.2.1.2.2.1, ()))), ()))))))) else ((spec_l01Next.f k (o3, (o4, (o5, ()))) (20 : Int)).bind fun r12 => (bif (r12.1.1 == (0 : Int)) then ((spec_l01Pick.f k (r12.2.1.1, (r12.2.1.2.1, (r12.2.1.2.2.1, ()))) ([(0 : Int), o2] : List Int)).bind fun r13 => (bif (decide ((o6.length + ([r13.1.1] : List Int).length) * 8 ≤ AM.maxBytes)) then (some (((o6 ++ ([r13.1.1] : List Int)), ()), ((r13.2.1.1, (r13.2.1.2.1, (r13.2.1.2.2.1, ()))), ()))) else none)) else (some ((o6, ()), ((r12.2.1.1, (r12.2.1.2.1, (r12.2.1.2.2.1, ()))), ()))))))))
end spec_l13DrawWinners

/-! ### loop.example/g00910/spec.DrawSplitChips -/
namespace spec_DrawSplitChips
def i1001_s3 {R : Type} (k : Nat) (rec : (List Int) × Int × (List Int) × Int × Int → Option R) (kx0 : ((List Int) × Int × Int → Option R)) : (List Int) × Int × (List Int) × Int × Int → Option R := fun (x0, x4, z0_0, z0_1, z0_2) =>
  (bif (decide (x4 < ((x0.length : Nat) : Int))) then (bif (decide (x4 < (64 : Int))) then (bif ((decide (0 ≤ x4)) && (decide (x4 < ((x0.length : Nat) : Int)))) then (bif (!(decide ((2147483647 : Int) = 0))) then (rec (x0, (IntKind.wrap .i64 (x4 + (1 : Int))), z0_0, z0_1, (Int.tmod (IntKind.wrap .i64 ((IntKind.wrap .i64 (z0_2 * (61 : Int))) + (IntKind.wrap .i64 (x0.getD (Int.toNat x4) (0 : Int))))) (2147483647 : Int)))) else none) else none) else (kx0 (z0_0, z0_1, z0_2))) else (kx0 (z0_0, z0_1, z0_2)))
def i1001_l3 {R : Type} (k : Nat) : Nat → (List Int) × Int × (List Int) × Int × Int → ((List Int) × Int × Int → Option R) → Option R
  | 0, _, _ => none
  | n + 1, v, kx0 => i1001_s3 k (fun w => i1001_l3 k n w kx0) kx0 v
theorem i1001_l3_fix {R : Type} {k : Nat} {kx0 : ((List Int) × Int × Int → Option R)} (Inv : ((List Int) × Int × (List Int) × Int × Int) → Prop) (μ : ((List Int) × Int × (List Int) × Int × Int) → Nat) (G : ((List Int) × Int × (List Int) × Int × Int) → Option R) (h : ∀ v rec, Inv v → (∀ w, Inv w → μ w < μ v → rec w = G w) → i1001_s3 k rec kx0 v = G v) : ∀ n v, Inv v → μ v < n → i1001_l3 k n v kx0 = G v := loop_fix (S := fun rec v => i1001_s3 k rec kx0 v) (fun _ _ => rfl) Inv μ G h
theorem i1001_l3_for {R : Type} {k : Nat} {kx0 : ((List Int) × Int × Int → Option R)} (N : Nat) (Inv : Nat → ((List Int)) → ((List Int)) → (Int) → (Int) → Prop) (G : Nat → ((List Int)) → ((List Int)) → (Int) → (Int) → Option R) (h : ∀ (i : Nat) (x0 : (List Int)) (z0_0 : (List Int)) (z0_1 : Int) (z0_2 : Int) (rec : (List Int) × Int × (List Int) × Int × Int → Option R), i ≤ N → Inv i x0 z0_0 z0_1 z0_2 → (∀ (x0' : (List Int)) (z0_0' : (List Int)) (z0_1' : Int) (z0_2' : Int), i < N → Inv (i + 1) x0' z0_0' z0_1' z0_2' → rec (x0', ((i : Int) + 1), z0_0', z0_1', z0_2') = G (i + 1) x0' z0_0' z0_1' z0_2') → i1001_s3 k rec kx0 (x0, (i : Int), z0_0, z0_1, z0_2) = G i x0 z0_0 z0_1 z0_2) : ∀ (n i : Nat) (x0 : (List Int)) (z0_0 : (List Int)) (z0_1 : Int) (z0_2 : Int), i ≤ N → Inv i x0 z0_0 z0_1 z0_2 → N - i < n → i1001_l3 k n (x0, (i : Int), z0_0, z0_1, z0_2) kx0 = G i x0 z0_0 z0_1 z0_2 := by
  intro n
  induction n with
  | zero => intro i x0 z0_0 z0_1 z0_2 _ _ h0; omega
  | succ n ih =>
    intro i x0 z0_0 z0_1 z0_2 hi hv hn
    exact h i x0 z0_0 z0_1 z0_2 (fun w => i1001_l3 k n w kx0) hi hv (fun x0' z0_0' z0_1' z0_2' hlt hv' => ih (i + 1) x0' z0_0' z0_1' z0_2' hlt hv' (by omega))
def f (k : Nat) (a0 : (List Int)) : (Option ((Int × (List Int) × Int × Int × Unit) × (Unit))) :=
  (i1001_l3 k k (a0, (0 : Int), a0, (0 : Int), (45007 : Int)) (fun (o1, o2, o3) => ((spec_l13DrawSeats.f k (o1, (o2, (o3, ())))).bind fun r4 => ((spec_l01Next.f k (r4.2.1.1, (r4.2.1.2.1, (r4.2.1.2.2.1, ()))) (100 : Int)).bind fun r5 => ((spec_l01Pick.f k (r5.2.1.1, (r5.2.1.2.1, (r5.2.1.2.2.1, ()))) ([(0 : Int), (1 : Int), (7 : Int), (10 : Int), r5.1.1, (600000 : Int), (600001 : Int), (-1 : Int), (25 : Int), (11 : Int)] : List Int)).bind fun r6 => ((spec_l13DrawWinners.f k (r6.2.1.1, (r6.2.1.2.1, (r6.2.1.2.2.1, ()))) r4.1.1).bind fun r7 => ((spec_l01Next.f k (r7.2.1.1, (r7.2.1.2.1, (r7.2.1.2.2.1, ()))) (IntKind.wrap .i64 (r4.1.1 + (1 : Int)))).bind fun r8 => ((spec_l01Next.f k (r8.2.1.1, (r8.2.1.2.1, (r8.2.1.2.2.1, ()))) (20 : Int)).bind fun r9 => (bif (!(decide ((19 : Int) = 0))) then (some ((r6.1.1, (r7.1.1, (r4.1.1, ((IntKind.wrap .i64 (r8.1.1 - (IntKind.wrap .i64 (Int.tdiv r9.1.1 (19 : Int))))), ())))), ())) else none)))))))))
end spec_DrawSplitChips

/-! ### loop.example/g00910/spec.l13DrawValues -/
namespace spec_l13DrawValues
def s3 {R : Type} (k : Nat) (rec : Int × Int × (List Int) × Int × Int × (List Int) → Option R) (kx0 : ((List Int) × Int × Int × (List Int) → Option R)) : Int × Int × (List Int) × Int × Int × (List Int) → Option R := fun (x1, x6, z0_0, z0_1, z0_2, y1) =>
  (bif (decide (x6 < x1)) then ((spec_l01Next.f k (z0_0, (z0_1, (z0_2, ()))) (4 : Int)).bind fun r1 => (bif (decide ((y1.length + ([(IntKind.wrap .i64 (r1.1.1 - (1 : Int)))] : List Int).length) * 8 ≤ AM.maxBytes)) then (rec (x1, (IntKind.wrap .i64 (x6 + (1 : Int))), r1.2.1.1, r1.2.1.2.1, r1.2.1.2.2.1, (y1 ++ ([(IntKind.wrap .i64 (r1.1.1 - (1 : Int)))] : List Int)))) else none)) else (kx0 (z0_0, z0_1, z0_2, y1)))
def l3 {R : Type} (k : Nat) : Nat → Int × Int × (List Int) × Int × Int × (List Int) → ((List Int) × Int × Int × (List Int) → Option R) → Option R
  | 0, _, _ => none
  | n + 1, v, kx0 => s3 k (fun w => l3 k n w kx0) kx0 v
theorem l3_fix {R : Type} {k : Nat} {kx0 : ((List Int) × Int × Int × (List Int) → Option R)} (Inv : (Int × Int × (List Int) × Int × Int × (List Int)) → Prop) (μ : (Int × Int × (List Int) × Int × Int × (List Int)) → Nat) (G : (Int × Int × (List Int) × Int × Int × (List Int)) → Option R) (h : ∀ v rec, Inv v → (∀ w, Inv w → μ w < μ v → rec w = G w) → s3 k rec kx0 v = G v) : ∀ n v, Inv v → μ v < n → l3 k n v kx0 = G v := loop_fix (S := fun rec v => s3 k rec kx0 v) (fun _ _ => rfl) Inv μ G h
theorem l3_for {R : Type} {k : Nat} {kx0 : ((List Int) × Int × Int × (List Int) → Option R)} (N : Nat) (Inv : Nat → (Int) → ((List Int)) → (Int) → (Int) → ((List Int)) → Prop) (G : Nat → (Int) → ((List Int)) → (Int) → (Int) → ((List Int)) → Option R) (h : ∀ (i : Nat) (x1 : Int) (z0_0 : (List Int)) (z0_1 : Int) (z0_2 : Int) (y1 : (List Int)) (rec : Int × Int × (List Int) × Int × Int × (List Int) → Option R), i ≤ N → Inv i x1 z0_0 z0_1 z0_2 y1 → (∀ (x1' : Int) (z0_0' : (List Int)) (z0_1' : Int) (z0_2' : Int) (y1' : (List Int)), i < N → Inv (i + 1) x1' z0_0' z0_1' z0_2' y1' → rec (x1', ((i : Int) + 1), z0_0', z0_1', z0_2', y1') = G (i + 1) x1' z0_0' z0_1' z0_2' y1') → s3 k rec kx0 (x1, (i : Int), z0_0, z0_1, z0_2, y1) = G i x1 z0_0 z0_1 z0_2 y1) : ∀ (n i : Nat) (x1 : Int) (z0_0 : (List Int)) (z0_1 : Int) (z0_2 : Int) (y1 : (List Int)), i ≤ N → Inv i x1 z0_0 z0_1 z0_2 y1 → N - i < n → l3 k n (x1, (i : Int), z0_0, z0_1, z0_2, y1) kx0 = G i x1 z0_0 z0_1 z0_2 y1 := by
  intro n
  induction n with
  | zero => intro i x1 z0_0 z0_1 z0_2 y1 _ _ h0; omega
  | succ n ih =>
    intro i x1 z0_0 z0_1 z0_2 y1 hi hv hn
    exact h i x1 z0_0 z0_1 z0_2 y1 (fun w => l3 k n w kx0) hi hv (fun x1' z0_0' z0_1' z0_2' y1' hlt hv' => ih (i + 1) x1' z0_0' z0_1' z0_2' y1' hlt hv' (by omega))
def f (k : Nat) (a0 : ((List Int) × (Int × (Int × Unit)))) (a1 : Int) : (Option (((List Int) × Unit) × (((List Int) × (Int × (Int × Unit))) × Unit))) :=
  (l3 k k (a1, (0 : Int), a0.1, a0.2.1, a0.2.2.1, ([] : List Int)) (fun (o2, o3, o4, o5) => ((spec_l01Next.f k (o2, (o3, (o4, ()))) (24 : Int)).bind fun r6 => (bif (r6.1.1 == (0 : Int)) then (bif (decide ((o5.length + ([(0 : Int)] : List Int).length) * 8 ≤ AM.maxBytes)) then (some (((o5 ++ ([(0 : Int)] : List Int)), ()), ((r6.2.1.1, (r6.2.1.2.1, (r6.2.1.2.2.1, ()))), ()))) else none) else (bif (r6.1.1 == (1 : Int)) then (bif (decide (((o5.length : Nat) : Int) > (0 : Int))) then (bif ((decide (0 ≤ (0 : Int))) && (decide ((0 : Int) < ((o5.length : Nat) : Int)))) then (bif (decide (0 < o5.length)) then (some (((o5.set 0 (-2 : Int)), ()), ((r6.2.1.1, (r6.2.1.2.1, (r6.2.1.2.2.1, ()))), ()))) else none) else none) else (some ((o5, ()), ((r6.2.1.1, (r6.2.1.2.1, (r6.2.1.2.2.1, ()))), ())))) else (some ((o5, ()), ((r6.2.1.1, (r6.2.1.2.1, (r6.2.1.2.2.1, ()))), ()))))))))
end spec_l13DrawValues

/-! ### loop.example/g00910/spec.DrawHighWinners -/
namespace spec_DrawHighWinners
def i1001_s3 {R : Type} (k : Nat) (rec : (List Int) × Int × (List Int) × Int × Int → Option R) (kx0 : ((List Int) × Int × Int → Option R)) : (List Int) × Int × (List Int) × Int × Int → Option R := fun (x0, x4, z0_0, z0_1, z0_2) =>
  (bif (decide (x4 < ((x0.length : Nat) : Int))) then (bif (decide (x4 < (64 : Int))) then (bif ((decide (0 ≤ x4)) && (decide (x4 < ((x0.length : Nat) : Int)))) then (bif (!(decide ((2147483647 : Int) = 0))) then (rec (x0, (IntKind.wrap .i64 (x4 + (1 : Int))), z0_0, z0_1, (Int.tmod (IntKind.wrap .i64 ((IntKind.wrap .i64 (z0_2 * (61 : Int))) + (IntKind.wrap .i64 (x0.getD (Int.toNat x4) (0 : Int))))) (2147483647 : Int)))) else none) else none) else (kx0 (z0_0, z0_1, z0_2))) else (kx0 (z0_0, z0_1, z0_2)))
def i1001_l3 {R : Type} (k : Nat) : Nat → (List Int) × Int × (List Int) × Int × Int → ((List Int) × Int × Int → Option R) → Option R
  | 0, _, _ => none
  | n + 1, v, kx0 => i1001_s3 k (fun w => i1001_l3 k n w kx0) kx0 v
theorem i1001_l3_fix {R : Type} {k : Nat} {kx0 : ((List Int) × Int × Int → Option R)} (Inv : ((List Int) × Int × (List Int) × Int × Int) → Prop) (μ : ((List Int) × Int × (List Int) × Int × Int) → Nat) (G : ((List Int) × Int × (List Int) × Int × Int) → Option R) (h : ∀ v rec, Inv v → (∀ w, Inv w → μ w < μ v → rec w = G w) → i1001_s3 k rec kx0 v = G v) : ∀ n v, Inv v → μ v < n → i1001_l3 k n v kx0 = G v := loop_fix (S := fun rec v => i1001_s3 k rec kx0 v) (fun _ _ => rfl) Inv μ G h
theorem i1001_l3_for {R : Type} {k : Nat} {kx0 : ((List Int) × Int × Int → Option R)} (N : Nat) (Inv : Nat → ((List Int)) → ((List Int)) → (Int) → (Int) → Prop) (G : Nat → ((List Int)) → ((List Int)) → (Int) → (Int) → Option R) (h : ∀ (i : Nat) (x0 : (List Int)) (z0_0 : (List Int)) (z0_1 : Int) (z0_2 : Int) (rec : (List Int) × Int × (List Int) × Int × Int → Option R), i ≤ N → Inv i x0 z0_0 z0_1 z0_2 → (∀ (x0' : (List Int)) (z0_0' : (List Int)) (z0_1' : Int) (z0_2' : Int), i < N → Inv (i + 1) x0' z0_0' z0_1' z0_2' → rec (x0', ((i : Int) + 1), z0_0', z0_1', z0_2') = G (i + 1) x0' z0_0' z0_1' z0_2') → i1001_s3 k rec kx0 (x0, (i : Int), z0_0, z0_1, z0_2) = G i x0 z0_0 z0_1 z0_2) : ∀ (n i : Nat) (x0 : (List Int)) (z0_0 : (List Int)) (z0_1 : Int) (z0_2 : Int), i ≤ N → Inv i x0 z0_0 z0_1 z0_2 → N - i < n → i1001_l3 k n (x0, (i : Int), z0_0, z0_1, z0_2) kx0 = G i x0 z0_0 z0_1 z0_2 := by
  intro n
  induction n with
  | zero => intro i x0 z0_0 z0_1 z0_2 _ _ h0; omega
  | succ n ih =>
    intro i x0 z0_0 z0_1 z0_2 hi hv hn
    exact h i x0 z0_0 z0_1 z0_2 (fun w => i1001_l3 k n w kx0) hi hv (fun x0' z0_0' z0_1' z0_2' hlt hv' => ih (i + 1) x0' z0_0' z0_1' z0_2' hlt hv' (by omega))
def f (k : Nat) (a0 : (List Int)) : (Option (((List Int) × (List Int) × Unit) × (Unit))) :=
  (i1001_l3 k k (a0, (0 : Int), a0, (0 : Int), (45007 : Int)) (fun (o1, o2, o3) => ((spec_l13DrawSeats.f k (o1, (o2, (o3, ())))).bind fun r4 => ((spec_l13DrawWinners.f k (r4.2.1.1, (r4.2.1.2.1, (r4.2.1.2.2.1, ()))) r4.1.1).bind fun r5 => ((spec_l13DrawValues.f k (r5.2.1.1, (r5.2.1.2.1, (r5.2.1.2.2.1, ()))) r4.1.1).bind fun r6 => (some ((r5.1.1, (r6.1.1, ())), ())))))))
end spec_DrawHighWinners

/-! ### loop.example/g00910/spec.DrawLowWinners -/
namespace spec_DrawLowWinners
def f (k : Nat) (a0 : (List Int)) : (Option (((List Int) × (List Int) × Unit) × (Unit))) :=
  ((spec_DrawHighWinners.f k a0).bind fun r1 => (some ((r1.1.1, (r1.1.2.1, ())), ())))
end spec_DrawLowWinners

/-! ### loop.example/g00910/laws.likeInts -/
namespace laws_likeInts
def s4 {R : Type} (k : Nat) (rec : (List Int) × (List Int) × Int → Option R) (kx0 : (Unit → Option R)) (kr : (Bool → Option R)) : (List Int) × (List Int) × Int → Option R := fun (x0, x1, x5) =>
  (bif (decide (x5 < ((x0.length : Nat) : Int))) then (bif ((decide (0 ≤ x5)) && (decide (x5 < ((x0.length : Nat) : Int)))) then (bif ((decide (0 ≤ x5)) && (decide (x5 < ((x1.length : Nat) : Int)))) then (bif ((x0.getD (Int.toNat x5) (0 : Int)) != (x1.getD (Int.toNat x5) (0 : Int))) then (kr false) else (rec (x0, x1, (IntKind.wrap .i64 (x5 + (1 : Int)))))) else none) else none) else (kx0 ()))
def l4 {R : Type} (k : Nat) : Nat → (List Int) × (List Int) × Int → (Unit → Option R) → (Bool → Option R) → Option R
  | 0, _, _, _ => none
  | n + 1, v, kx0, kr => s4 k (fun w => l4 k n w kx0 kr) kx0 kr v
theorem l4_fix {R : Type} {k : Nat} {kx0 : (Unit → Option R)} {kr : (Bool → Option R)} (Inv : ((List Int) × (List Int) × Int) → Prop) (μ : ((List Int) × (List Int) × Int) → Nat) (G : ((List Int) × (List Int) × Int) → Option R) (h : ∀ v rec, Inv v → (∀ w, Inv w → μ w < μ v → rec w = G w) → s4 k rec kx0 kr v = G v) : ∀ n v, Inv v → μ v < n → l4 k n v kx0 kr = G v := loop_fix (S := fun rec v => s4 k rec kx0 kr v) (fun _ _ => rfl) Inv μ G h
theorem l4_for {R : Type} {k : Nat} {kx0 : (Unit → Option R)} {kr : (Bool → Option R)} (N : Nat) (Inv : Nat → ((List Int)) → ((List Int)) → Prop) (G : Nat → ((List Int)) → ((List Int)) → Option R) (h : ∀ (i : Nat) (x0 : (List Int)) (x1 : (List Int)) (rec : (List Int) × (List Int) × Int → Option R), i ≤ N → Inv i x0 x1 → (∀ (x0' : (List Int)) (x1' : (List Int)), i < N → Inv (i + 1) x0' x1' → rec (x0', x1', ((i : Int) + 1)) = G (i + 1) x0' x1') → s4 k rec kx0 kr (x0, x1, (i : Int)) = G i x0 x1) : ∀ (n i : Nat) (x0 : (List Int)) (x1 : (List Int)), i ≤ N → Inv i x0 x1 → N - i < n → l4 k n (x0, x1, (i : Int)) kx0 kr = G i x0 x1 := by
  intro n
  induction n with
  | zero => intro i x0 x1 _ _ h0; omega
  | succ n ih =>
    intro i x0 x1 hi hv hn
    exact h i x0 x1 (fun w => l4 k n w kx0 kr) hi hv (fun x0' x1' hlt hv' => ih (i + 1) x0' x1' hlt hv' (by omega))
def f (k : Nat) (a0 : (List Int)) (a1 : (List Int)) : (Option ((Bool × Unit) × (Unit))) :=
  (bif (((a0.length : Nat) : Int) != ((a1.length : Nat) : Int)) then (some ((false, ()), ())) else (l4 k k (a0, a1, (0 : Int)) (fun (_ : Unit) => (some ((true, ()), ()))) (fun o1 => (some ((o1, ()), ())))))
end laws_likeInts

/-! ### loop.example/g00910/laws.hasInt -/
namespace laws_hasInt
def s2 {R : Type} (k : Nat) (rec : (List Int) × Int × Int → Option R) (kx0 : (Unit → Option R)) (kr : (Bool → Option R)) : (List Int) × Int × Int → Option R := fun (x0, x1, x5) =>
  (bif (decide (x5 < ((x0.length : Nat) : Int))) then (bif ((decide (0 ≤ x5)) && (decide (x5 < ((x0.length : Nat) : Int)))) then (bif ((x0.getD (Int.toNat x5) (0 : Int)) == x1) then (kr true) else (rec (x0, x1, (IntKind.wrap .i64 (x5 + (1 : Int)))))) else none) else (kx0 ()))
def l2 {R : Type} (k : Nat) : Nat → (List Int) × Int × Int → (Unit → Option R) → (Bool → Option R) → Option R
  | 0, _, _, _ => none
  | n + 1, v, kx0, kr => s2 k (fun w => l2 k n w kx0 kr) kx0 kr v
theorem l2_fix {R : Type} {k : Nat} {kx0 : (Unit → Option R)} {kr : (Bool → Option R)} (Inv : ((List Int) × Int × Int) → Prop) (μ : ((List Int) × Int × Int) → Nat) (G : ((List Int) × Int × Int) → Option R) (h : ∀ v rec, Inv v → (∀ w, Inv w → μ w < μ v → rec w = G w) → s2 k rec kx0 kr v = G v) : ∀ n v, Inv v → μ v < n → l2 k n v kx0 kr = G v := loop_fix (S := fun rec v => s2 k rec kx0 kr v) (fun _ _ => rfl) Inv μ G h
theorem l2_for {R : Type} {k : Nat} {kx0 : (Unit → Option R)} {kr : (Bool → Option R)} (N : Nat) (Inv : Nat → ((List Int)) → (Int) → Prop) (G : Nat → ((List Int)) → (Int) → Option R) (h : ∀ (i : Nat) (x0 : (List Int)) (x1 : Int) (rec : (List Int) × Int × Int → Option R), i ≤ N → Inv i x0 x1 → (∀ (x0' : (List Int)) (x1' : Int), i < N → Inv (i + 1) x0' x1' → rec (x0', x1', ((i : Int) + 1)) = G (i + 1) x0' x1') → s2 k rec kx0 kr (x0, x1, (i : Int)) = G i x0 x1) : ∀ (n i : Nat) (x0 : (List Int)) (x1 : Int), i ≤ N → Inv i x0 x1 → N - i < n → l2 k n (x0, x1, (i : Int)) kx0 kr = G i x0 x1 := by
  intro n
  induction n with
  | zero => intro i x0 x1 _ _ h0; omega
  | succ n ih =>
    intro i x0 x1 hi hv hn
    exact h i x0 x1 (fun w => l2 k n w kx0 kr) hi hv (fun x0' x1' hlt hv' => ih (i + 1) x0' x1' hlt hv' (by omega))
def f (k : Nat) (a0 : (List Int)) (a1 : Int) : (Option ((Bool × Unit) × (Unit))) :=
  (l2 k k (a0, a1, (0 : Int)) (fun (_ : Unit) => (some ((false, ()), ()))) (fun o1 => (some ((o1, ()), ()))))
end laws_hasInt

/-! ### loop.example/g00910/laws.sum -/
namespace laws_sum
def s3 {R : Type} (k : Nat) (rec : (List Int) × Int × Int → Option R) (kx0 : (Int → Option R)) : (List Int) × Int × Int → Option R := fun (x0, x3, x4) =>
  (bif (decide (x4 < ((x0.length : Nat) : Int))) then (bif ((decide (0 ≤ x4)) && (decide (x4 < ((x0.length : Nat) : Int)))) then (rec (x0, (IntKind.wrap .i64 (x3 + (x0.getD (Int.toNat x4) (0 : Int)))), (IntKind.wrap .i64 (x4 + (1 : Int))))) else none) else (kx0 x3))
def l3 {R : Type} (k : Nat) : Nat → (List Int) × Int × Int → (Int → Option R) → Option R
  | 0, _, _ => none
  | n + 1, v, kx0 => s3 k (fun w => l3 k n w kx0) kx0 v
theorem l3_fix {R : Type} {k : Nat} {kx0 : (Int → Option R)} (Inv : ((List Int) × Int × Int) → Prop) (μ : ((List Int) × Int × Int) → Nat) (G : ((List Int) × Int × Int) → Option R) (h : ∀ v rec, Inv v → (∀ w, Inv w → μ w < μ v → rec w = G w) → s3 k rec kx0 v = G v) : ∀ n v, Inv v → μ v < n → l3 k n v kx0 = G v := loop_fix (S := fun rec v => s3 k rec kx0 v) (fun _ _ => rfl) Inv μ G h
theorem l3_for {R : Type} {k : Nat} {kx0 : (Int → Option R)} (N : Nat) (Inv : Nat → ((List Int)) → (Int) → Prop) (G : Nat → ((List Int)) → (Int) → Option R) (h : ∀ (i : Nat) (x0 : (List Int)) (x3 : Int) (rec : (List Int) × Int × Int → Option R), i ≤ N → Inv i x0 x3 → (∀ (x0' : (List Int)) (x3' : Int), i < N → Inv (i + 1) x0' x3' → rec (x0', x3', ((i : Int) + 1)) = G (i + 1) x0' x3') → s3 k rec kx0 (x0, x3, (i : Int)) = G i x0 x3) : ∀ (n i : Nat) (x0 : (List Int)) (x3 : Int), i ≤ N → Inv i x0 x3 → N - i < n → l3 k n (x0, x3, (i : Int)) kx0 = G i x0 x3 := by
  intro n
  induction n with
  | zero => intro i x0 x3 _ _ h0; omega
  | succ n ih =>
    intro i x0 x3 hi hv hn
    exact h i x0 x3 (fun w => l3 k n w kx0) hi hv (fun x0' x3' hlt hv' => ih (i + 1) x0' x3' hlt hv' (by omega))
def f (k : Nat) (a0 : (List Int)) : (Option ((Int × Unit) × (Unit))) :=
  (l3 k k (a0, (0 : Int), (0 : Int)) (fun o1 => (some ((o1, ()), ()))))
end laws_sum

/-! ### loop.example/g00910/laws.FnSplits -/
namespace laws_FnSplits
def s17 {R : Type} (k : Nat) (rec : Int × Int × (List Int) × (List Int) → Option R) (kx0 : (Int × (List Int) → Option R)) (kr : (Bool × Int × (List Int) → Option R)) : Int × Int × (List Int) × (List Int) → Option R := fun (x3, x23, y0, y1) =>
  (bif (decide (x23 < ((y1.length : Nat) : Int))) then (bif (!(decide (((y0.length : Nat) : Int) = 0))) then ((laws_hasInt.f k y0 x23).bind fun r14 => (bif r14.1.1 then (bif ((decide (0 ≤ x23)) && (decide (x23 < ((y1.length : Nat) : Int)))) then (bif (decide ((Int.toNat x23) < y1.length)) then (bif ((y1.getD (Int.toNat x23) (0 : Int)) != (IntKind.wrap .i64 (Int.tdiv x3 ((y0.length : Nat) : Int)))) then (bif ((decide (0 ≤ x23)) && (decide (x23 < ((y1.length : Nat) : Int)))) then (bif (decide ((Int.toNat x23) < y1.length)) then (bif ((y1.getD (Int.toNat x23) (0 : Int)) != (IntKind.wrap .i64 ((IntKind.wrap .i64 (Int.tdiv x3 ((y0.length : Nat) : Int))) + (1 : Int)))) then (kr (false, x3, y1)) else (rec (x3, (IntKind.wrap .i64 (x23 + (1 : Int))), y0, y1))) else none) else none) else (rec (x3, (IntKind.wrap .i64 (x23 + (1 : Int))), y0, y1))) else none) else none) else (bif ((decide (0 ≤ x23)) && (decide (x23 < ((y1.length : Nat) : Int)))) then (bif (decide ((Int.toNat x23) < y1.length)) then (bif ((y1.getD (Int.toNat x23) (0 : Int)) != (0 : Int)) then (kr (false, x3, y1)) else (rec (x3, (IntKind.wrap .i64 (x23 + (1 : Int))), y0, y1))) else none) else none))) else none) else (kx0 (x3, y1)))
def l17 {R : Type} (k : Nat) : Nat → Int × Int × (List Int) × (List Int) → (Int × (List Int) → Option R) → (Bool × Int × (List Int) → Option R) → Option R
  | 0, _, _, _ => none
  | n + 1, v, kx0, kr => s17 k (fun w => l17 k n w kx0 kr) kx0 kr v
theorem l17_fix {R : Type} {k : Nat} {kx0 : (Int × (List Int) → Option R)} {kr : (Bool × Int × (List Int) → Option R)} (Inv : (Int × Int × (List Int) × (List Int)) → Prop) (μ : (Int × Int × (List Int) × (List Int)) → Nat) (G : (Int × Int × (List Int) × (List Int)) → Option R) (h : ∀ v rec, Inv v → (∀ w, Inv w → μ w < μ v → rec w = G w) → s17 k rec kx0 kr v = G v) : ∀ n v, Inv v → μ v < n → l17 k n v kx0 kr = G v := loop_fix (S := fun rec v => s17 k rec kx0 kr v) (fun _ _ => rfl) Inv μ G h
theorem l17_for {R : Type} {k : Nat} {kx0 : (Int × (List Int) → Option R)} {kr : (Bool × Int × (List Int) → Option R)} (N : Nat) (Inv : Nat → (Int) → ((List Int)) → ((List Int)) → Prop) (G : Nat → (Int) → ((List Int)) → ((List Int)) → Option R) (h : ∀ (i : Nat) (x3 : Int) (y0 : (List Int)) (y1 : (List Int)) (rec : Int × Int × (List Int) × (List Int) → Option R), i ≤ N → Inv i x3 y0 y1 → (∀ (x3' : Int) (y0' : (List Int)) (y1' : (List Int)), i < N → Inv (i + 1) x3' y0' y1' → rec (x3', ((i : Int) + 1), y0', y1') = G (i + 1) x3' y0' y1') → s17 k rec kx0 kr (x3, (i : Int), y0, y1) = G i x3 y0 y1) : ∀ (n i : Nat) (x3 : Int) (y0 : (List Int)) (y1 : (List Int)), i ≤ N → Inv i x3 y0 y1 → N - i < n → l17 k n (x3, (i : Int), y0, y1) kx0 kr = G i x3 y0 y1 := by
  intro n
  induction n with
  | zero => intro i x3 y0 y1 _ _ h0; omega
  | succ n ih =>
    intro i x3 y0 y1 hi hv hn
    exact h i x3 y0 y1 (fun w => l17 k n w kx0 kr) hi hv (fun x3' y0' y1' hlt hv' => ih (i + 1) x3' y0' y1' hlt hv' (by omega))
def f (k : Nat) (a0 : (List Int)) : (Option ((Bool × Unit) × (Unit))) :=
  ((laws_big.f k a0).bind fun r1 => (bif r1.1.1 then (some ((true, ()), ())) else ((spec_DrawSplitChips.f k a0).bind fun r2 => ((impl_SplitChips.f k r2.1.1 r2.1.2.1 r2.1.2.2.1 r2.1.2.2.2.1).bind fun r3 => ((spec_SplitChips.f k r2.1.1 r2.1.2.1 r2.1.2.2.1 r2.1.2.2.2.1).bind fun r4 => ((spec_DrawHighWinners.f k a0).bind fun r5 => ((impl_HighWinners.f k r5.1.1 r5.1.2.1).bind fun r6 => ((spec_HighWinners.f k r5.1.1 r5.1.2.1).bind fun r7 => ((spec_DrawLowWinners.f k a0).bind fun r8 => ((impl_LowWinners.f k r8.1.1 r8.1.2.1).bind fun r9 => ((spec_LowWinners.f k r8.1.1 r8.1.2.1).bind fun r10 => (bif (r3.1.2.1 != r4.1.2.1) then (some ((false, ()), ())) else ((laws_likeInts.f k r3.1.1 r4.1.1).bind fun r11 => (bif (!r11.1.1) then (some ((false, ()), ())) else (bif (r6.1.2.1 != r7.1.2.1) then (some ((false, ()), ())) else ((laws_likeInts.f k r6.1.1 r7.1.1).bind fun r12 => (bif (!r12.1.1) then (some ((false, ()), ())) else (bif (r9.1.2.1 != r10.1.2.1) then (some ((false, ()), ())) else ((laws_likeInts.f k r9.1.1 r10.1.1).bind fun r13 => (bif (!r13.1.1) then (some ((false, ()), ())) else (bif (r3.1.2.1 != (0 : Int)) then (some ((true, ()), ())) else (l17 k k (r2.1.1, (0 : Int), r2.1.2.1, r3.1.1) (fun (o15, o16) => ((laws_sum.f k o16).bind fun r17 => (some (((r17.1.1 == o15), ()), ())))) (fun (o18, o19, o20) => (some ((o18, ()), ())))))))))))))))))))))))))
end laws_FnSplits
end Go.Sh
