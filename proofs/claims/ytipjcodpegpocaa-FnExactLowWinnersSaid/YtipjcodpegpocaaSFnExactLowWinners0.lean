/- For each Go function that the law reaches, a Lean function over plain values, and the rule of each of its loops; conditions: none. -/
import Derived.Test.YtipjcodpegpocaaPL
noncomputable section
set_option linter.unusedVariables false
namespace Go.Sh
open Go
/-! ### loop.example/g00910/laws.toInt64S -/
namespace laws_toInt64S
def s3 {R : Type} (k : Nat) (rec : (List Int) × Int × (List Int) → Option R) (kx0 : ((List Int) → Option R)) : (List Int) × Int × (List Int) → Option R := fun (x0, x4, y0) =>
  (bif (decide (x4 < ((x0.length : Nat) : Int))) then (bif ((decide (0 ≤ x4)) && (decide (x4 < ((x0.length : Nat) : Int)))) then (bif ((decide (0 ≤ x4)) && (decide (x4 < ((y0.length : Nat) : Int)))) then (bif (decide ((Int.toNat x4) < y0.length)) then (rec (x0, (IntKind.wrap .i64 (x4 + (1 : Int))), (y0.set (Int.toNat x4) (x0.getD (Int.toNat x4) (0 : Int))))) else none) else none) else none) else (kx0 y0))
def l3 {R : Type} (k : Nat) : Nat → (List Int) × Int × (List Int) → ((List Int) → Option R) → Option R
  | 0, _, _ => none
  | n + 1, v, kx0 => s3 k (fun w => l3 k n w kx0) kx0 v
theorem l3_fix {R : Type} {k : Nat} {kx0 : ((List Int) → Option R)} (Inv : ((List Int) × Int × (List Int)) → Prop) (μ : ((List Int) × Int × (List Int)) → Nat) (G : ((List Int) × Int × (List Int)) → Option R) (h : ∀ v rec, Inv v → (∀ w, Inv w → μ w < μ v → rec w = G w) → s3 k rec kx0 v = G v) : ∀ n v, Inv v → μ v < n → l3 k n v kx0 = G v := loop_fix (S := fun rec v => s3 k rec kx0 v) (fun _ _ => rfl) Inv μ G h
theorem l3_for {R : Type} {k : Nat} {kx0 : ((List Int) → Option R)} (N : Nat) (Inv : Nat → ((List Int)) → ((List Int)) → Prop) (G : Nat → ((List Int)) → ((List Int)) → Option R) (h : ∀ (i : Nat) (x0 : (List Int)) (y0 : (List Int)) (rec : (List Int) × Int × (List Int) → Option R), i ≤ N → Inv i x0 y0 → (∀ (x0' : (List Int)) (y0' : (List Int)), i < N → Inv (i + 1) x0' y0' → rec (x0', ((i : Int) + 1), y0') = G (i + 1) x0' y0') → s3 k rec kx0 (x0, (i : Int), y0) = G i x0 y0) : ∀ (n i : Nat) (x0 : (List Int)) (y0 : (List Int)), i ≤ N → Inv i x0 y0 → N - i < n → l3 k n (x0, (i : Int), y0) kx0 = G i x0 y0 := by
  intro n
  induction n with
  | zero => intro i x0 y0 _ _ h0; omega
  | succ n ih =>
    intro i x0 y0 hi hv hn
    exact h i x0 y0 (fun w => l3 k n w kx0) hi hv (fun x0' y0' hlt hv' => ih (i + 1) x0' y0' hlt hv' (by omega))
def f (k : Nat) (a0 : (List Int)) : (Option (((List Int) × Unit) × (Unit))) :=
  (bif ((decide (0 ≤ ((a0.length : Nat) : Int))) && ((decide (((a0.length : Nat) : Int) ≤ ((a0.length : Nat) : Int))) && (decide (((a0.length : Nat) : Int) * ((8 : Nat) : Int) ≤ (AM.maxBytes : Int))))) then (l3 k k (a0, (0 : Int), (List.replicate (Int.toNat ((a0.length : Nat) : Int)) (0 : Int))) (fun o1 => (some ((o1, ()), ())))) else none)
end laws_toInt64S

/-! ### loop.example/g00910/laws.eqInt64S -/
namespace laws_eqInt64S
def s4 {R : Type} (k : Nat) (rec : (List Int) × (List Int) × Int → Option R) (kx0 : (Unit → Option R)) (kr : (Bool → Option R)) : (List Int) × (List Int) × Int → Option R := fun (x0, x1, x5) =>
  (bif (decide (x5 < ((x0.length : Nat) : Int))) then (bif ((decide (0 ≤ x5)) && (decide (x5 < ((x0.length : Nat) : Int)))) then (bif ((decide (0 ≤ x5)) && (decide (x5 < ((x1.length : Nat) : Int)))) then (bif ((x0.getD (Int.toNat x5) (0 : Int)) != (x1.getD (Int.toNat x5) (0 : Int))) then (kr false) else (rec (x0, x1, (IntKind.wrap .i64 (x5 + (1 : Int)))))) else none) else none) else (kx0 ()))
def l4 {R : Type} (k : Nat) : Nat → (List Int) × (List Int) × Int → (Unit → Option R) → (Bool → Option R) → Option R
  | 0, _, _, _ => none
  | n + 1, v, kx0, kr => s4 k (fun w => l4 k n w kx0 kr) kx0 kr v
theorem l4_fix {R : Type} {k : Nat} {kx0 : (Unit → Option R)} {kr : (Bool → Option R)} (Inv : ((List Int) × (List Int) × Int) → Prop) (μ : ((List Int) × (List Int) × Int) → Nat) (G : ((List Int) × (List Int) × Int) → Option R) (h : ∀ v rec, Inv v → (∀ w, Inv w → μ w < μ v → rec w = G w) → s4 k rec kx0 kr v = G v) : ∀ n v, Inv v → μ v < n → l4 k n v kx0 kr = G v := loop_fix (S := fun rec v => s4 k rec kx0 kr v) (fun _ _ => rfl) Inv μ G h
theorem l4_for {R : Type} {k : Nat} {kx0 : (Unit → Option R)} {kr : (Bool → Option R)} (N : Nat) (Inv : Nat → ((List Int)) → ((List Int)) → Prop) (G : Nat → ((List Int)) → ((List Int)) → Option R) (h : ∀ (i : Nat) (x0 : (List Int)) (x1 : (List Int)) (rec : (List Int) × (List Int) × Int → Option R), i ≤ N → Inv i x0 x1 → (∀ (x0' : (List Int)) (x1' : (List Int)), i < N → Inv (i + 1) x0' x1' → rec (x0', x1', ((i : Int) + 1)) = G (i + 1) x0' x1') → s4 k rec kx0 kr (x0, x1, (i : Int)) = G i x0 x1) : ∀ (n i : Nat) (x0 : (List Int)) (x1 : (List Int)), i ≤ N → Inv i x0 x1 → N - i < n → l4 k n (x0, x1, (i : Int)) kx0 kr = G i x0 x1 := by
  intro n
  induction n with
  | zero => intro i x0 x1 _ _ h0; omega
  | succ n ih =>
    intro i x0 x1 hi hv hn
    exact h i x0 x1 (fun w => l4 k n w kx0 kr) hi hv (fun x0' x1' hlt hv' => ih (i + 1) x0' x1' hlt hv' (by omega))
def f (k : Nat) (a0 : (List Int)) (a1 : (List Int)) : (Option ((Bool × Unit) × (Unit))) :=
  (bif (((a0.length : Nat) : Int) != ((a1.length : Nat) : Int)) then (some ((false, ()), ())) else (l4 k k (a0, a1, (0 : Int)) (fun (_ : Unit) => (some ((true, ()), ()))) (fun o1 => (some ((o1, ()), ())))))
end laws_eqInt64S

/-! ### loop.example/g00910/laws.markInt64S -/
namespace laws_markInt64S
def s2 {R : Type} (k : Nat) (rec : Int × Int × (List Int) → Option R) (kx0 : (Int × (List Int) → Option R)) : Int × Int × (List Int) → Option R := fun (x1, x5, y0) =>
  (bif (decide (x5 < ((y0.length : Nat) : Int))) then (bif ((decide (0 ≤ x5)) && (decide (x5 < ((y0.length : Nat) : Int)))) then (bif (decide ((Int.toNat x5) < y0.length)) then (rec ((IntKind.wrap .i64 (x1 + (1 : Int))), (IntKind.wrap .i64 (x5 + (1 : Int))), (y0.set (Int.toNat x5) x1))) else none) else none) else (kx0 (x1, y0)))
def l2 {R : Type} (k : Nat) : Nat → Int × Int × (List Int) → (Int × (List Int) → Option R) → Option R
  | 0, _, _ => none
  | n + 1, v, kx0 => s2 k (fun w => l2 k n w kx0) kx0 v
theorem l2_fix {R : Type} {k : Nat} {kx0 : (Int × (List Int) → Option R)} (Inv : (Int × Int × (List Int)) → Prop) (μ : (Int × Int × (List Int)) → Nat) (G : (Int × Int × (List Int)) → Option R) (h : ∀ v rec, Inv v → (∀ w, Inv w → μ w < μ v → rec w = G w) → s2 k rec kx0 v = G v) : ∀ n v, Inv v → μ v < n → l2 k n v kx0 = G v := loop_fix (S := fun rec v => s2 k rec kx0 v) (fun _ _ => rfl) Inv μ G h
theorem l2_for {R : Type} {k : Nat} {kx0 : (Int × (List Int) → Option R)} (N : Nat) (Inv : Nat → (Int) → ((List Int)) → Prop) (G : Nat → (Int) → ((List Int)) → Option R) (h : ∀ (i : Nat) (x1 : Int) (y0 : (List Int)) (rec : Int × Int × (List Int) → Option R), i ≤ N → Inv i x1 y0 → (∀ (x1' : Int) (y0' : (List Int)), i < N → Inv (i + 1) x1' y0' → rec (x1', ((i : Int) + 1), y0') = G (i + 1) x1' y0') → s2 k rec kx0 (x1, (i : Int), y0) = G i x1 y0) : ∀ (n i : Nat) (x1 : Int) (y0 : (List Int)), i ≤ N → Inv i x1 y0 → N - i < n → l2 k n (x1, (i : Int), y0) kx0 = G i x1 y0 := by
  intro n
  induction n with
  | zero => intro i x1 y0 _ _ h0; omega
  | succ n ih =>
    intro i x1 y0 hi hv hn
    exact h i x1 y0 (fun w => l2 k n w kx0) hi hv (fun x1' y0' hlt hv' => ih (i + 1) x1' y0' hlt hv' (by omega))
def f (k : Nat) (a0 : (List Int)) (a1 : Int) : (Option ((Int × Unit) × ((List Int) × Unit))) :=
  (l2 k k (a1, (0 : Int), a0) (fun (o1, o2) => (some ((o1, ()), (o2, ())))))
end laws_markInt64S

/-! ### loop.example/g00910/laws.heldInt64S -/
namespace laws_heldInt64S
def s2 {R : Type} (k : Nat) (rec : (List Int) × Int × Int → Option R) (kx0 : (Int → Option R)) (kr : (Int × Int → Option R)) : (List Int) × Int × Int → Option R := fun (x0, x1, x5) =>
  (bif (decide (x5 < ((x0.length : Nat) : Int))) then (bif ((decide (0 ≤ x5)) && (decide (x5 < ((x0.length : Nat) : Int)))) then (bif ((x0.getD (Int.toNat x5) (0 : Int)) != x1) then (kr (x1, (-1 : Int))) else (rec (x0, (IntKind.wrap .i64 (x1 + (1 : Int))), (IntKind.wrap .i64 (x5 + (1 : Int)))))) else none) else (kx0 x1))
def l2 {R : Type} (k : Nat) : Nat → (List Int) × Int × Int → (Int → Option R) → (Int × Int → Option R) → Option R
  | 0, _, _, _ => none
  | n + 1, v, kx0, kr => s2 k (fun w => l2 k n w kx0 kr) kx0 kr v
theorem l2_fix {R : Type} {k : Nat} {kx0 : (Int → Option R)} {kr : (Int × Int → Option R)} (Inv : ((List Int) × Int × Int) → Prop) (μ : ((List Int) × Int × Int) → Nat) (G : ((List Int) × Int × Int) → Option R) (h : ∀ v rec, Inv v → (∀ w, Inv w → μ w < μ v → rec w = G w) → s2 k rec kx0 kr v = G v) : ∀ n v, Inv v → μ v < n → l2 k n v kx0 kr = G v := loop_fix (S := fun rec v => s2 k rec kx0 kr v) (fun _ _ => rfl) Inv μ G h
theorem l2_for {R : Type} {k : Nat} {kx0 : (Int → Option R)} {kr : (Int × Int → Option R)} (N : Nat) (Inv : Nat → ((List Int)) → (Int) → Prop) (G : Nat → ((List Int)) → (Int) → Option R) (h : ∀ (i : Nat) (x0 : (List Int)) (x1 : Int) (rec : (List Int) × Int × Int → Option R), i ≤ N → Inv i x0 x1 → (∀ (x0' : (List Int)) (x1' : Int), i < N → Inv (i + 1) x0' x1' → rec (x0', x1', ((i : Int) + 1)) = G (i + 1) x0' x1') → s2 k rec kx0 kr (x0, x1, (i : Int)) = G i x0 x1) : ∀ (n i : Nat) (x0 : (List Int)) (x1 : Int), i ≤ N → Inv i x0 x1 → N - i < n → l2 k n (x0, x1, (i : Int)) kx0 kr = G i x0 x1 := by
  intro n
  induction n with
  | zero => intro i x0 x1 _ _ h0; omega
  | succ n ih =>
    intro i x0 x1 hi hv hn
    exact h i x0 x1 (fun w => l2 k n w kx0 kr) hi hv (fun x0' x1' hlt hv' => ih (i + 1) x0' x1' hlt hv' (by omega))
def f (k : Nat) (a0 : (List Int)) (a1 : Int) : (Option ((Int × Unit) × (Unit))) :=
  (l2 k k (a0, a1, (0 : Int)) (fun o1 => (some ((o1, ()), ()))) (fun (o2, o3) => (some ((o3, ()), ()))))
end laws_heldInt64S

/-! ### loop.example/g00910/spec.l01In -/
namespace spec_l01In
def f (k : Nat) (a0 : Int) (a1 : Int) (a2 : Int) : (Option ((Bool × Unit) × (Unit))) :=
  (bif (decide (a0 ≥ a1)) then (some (((decide (a0 ≤ a2)), ()), ())) else (some ((false, ()), ())))
end spec_l01In

/-! ### loop.example/g00910/spec.l13Seats -/
namespace spec_l13Seats
def f (k : Nat) (a0 : Int) : (Option ((Bool × Unit) × (Unit))) :=
  ((spec_l01In.f k a0 (2 : Int) (6 : Int)).bind fun r1 => (some ((r1.1.1, ()), ())))
end spec_l13Seats

/-! ### loop.example/g00910/spec.l01Rises -/
namespace spec_l01Rises
def s2 {R : Type} (k : Nat) (rec : (List Int) × Int × Int → Option R) (kx0 : (Unit → Option R)) (kr : (Bool → Option R)) : (List Int) × Int × Int → Option R := fun (x0, x1, x5) =>
  (bif (decide (x5 < ((x0.length : Nat) : Int))) then (bif ((decide (0 ≤ x5)) && (decide (x5 < ((x0.length : Nat) : Int)))) then ((spec_l01In.f k (x0.getD (Int.toNat x5) (0 : Int)) (0 : Int) (IntKind.wrap .i64 (x1 - (1 : Int)))).bind fun r1 => (bif (!r1.1.1) then (kr false) else (bif (decide (x5 > (0 : Int))) then (bif ((decide (0 ≤ x5)) && (decide (x5 < ((x0.length : Nat) : Int)))) then (bif ((decide (0 ≤ (IntKind.wrap .i64 (x5 - (1 : Int))))) && (decide ((IntKind.wrap .i64 (x5 - (1 : Int))) < ((x0.length : Nat) : Int)))) then (bif (decide ((x0.getD (Int.toNat x5) (0 : Int)) ≤ (x0.getD (Int.toNat (IntKind.wrap .i64 (x5 - (1 : Int)))) (0 : Int)))) then (kr false) else (rec (x0, x1, (IntKind.wrap .i64 (x5 + (1 : Int)))))) else none) else none) else (rec (x0, x1, (IntKind.wrap .i64 (x5 + (1 : Int)))))))) else none) else (kx0 ()))
def l2 {R : Type} (k : Nat) : Nat → (List Int) × Int × Int → (Unit → Option R) → (Bool → Option R) → Option R
  | 0, _, _, _ => none
  | n + 1, v, kx0, kr => s2 k (fun w => l2 k n w kx0 kr) kx0 kr v
theorem l2_fix {R : Type} {k : Nat} {kx0 : (Unit → Option R)} {kr : (Bool → Option R)} (Inv : ((List Int) × Int × Int) → Prop) (μ : ((List Int) × Int × Int) → Nat) (G : ((List Int) × Int × Int) → Option R) (h : ∀ v rec, Inv v → (∀ w, Inv w → μ w < μ v → rec w = G w) → s2 k rec kx0 kr v = G v) : ∀ n v, Inv v → μ v < n → l2 k n v kx0 kr = G v := loop_fix (S := fun rec v => s2 k rec kx0 kr v) (fun _ _ => rfl) Inv μ G h
theorem l2_for {R : Type} {k : Nat} {kx0 : (Unit → Option R)} {kr : (Bool → Option R)} (N : Nat) (Inv : Nat → ((List Int)) → (Int) → Prop) (G : Nat → ((List Int)) → (Int) → Option R) (h : ∀ (i : Nat) (x0 : (List Int)) (x1 : Int) (rec : (List Int) × Int × Int → Option R), i ≤ N → Inv i x0 x1 → (∀ (x0' : (List Int)) (x1' : Int), i < N → Inv (i + 1) x0' x1' → rec (x0', x1', ((i : Int) + 1)) = G (i + 1) x0' x1') → s2 k rec kx0 kr (x0, x1, (i : Int)) = G i x0 x1) : ∀ (n i : Nat) (x0 : (List Int)) (x1 : Int), i ≤ N → Inv i x0 x1 → N - i < n → l2 k n (x0, x1, (i : Int)) kx0 kr = G i x0 x1 := by
  intro n
  induction n with
  | zero => intro i x0 x1 _ _ h0; omega
  | succ n ih =>
    intro i x0 x1 hi hv hn
    exact h i x0 x1 (fun w => l2 k n w kx0 kr) hi hv (fun x0' x1' hlt hv' => ih (i + 1) x0' x1' hlt hv' (by omega))
def f (k : Nat) (a0 : (List Int)) (a1 : Int) : (Option ((Bool × Unit) × (Unit))) :=
  (l2 k k (a0, a1, (0 : Int)) (fun (_ : Unit) => (some ((true, ()), ()))) (fun o2 => (some ((o2, ()), ()))))
end spec_l01Rises

/-! ### loop.example/g00910/spec.l13Winners -/
namespace spec_l13Winners
def f (k : Nat) (a0 : (List Int)) (a1 : Int) : (Option ((Bool × Unit) × (Unit))) :=
  (bif (decide (((a0.length : Nat) : Int) > (0 : Int))) then ((spec_l01Rises.f k a0 a1).bind fun r1 => (some ((r1.1.1, ()), ()))) else (some ((false, ()), ())))
end spec_l13Winners

/-! ### loop.example/g00910/spec.l13Values -/
namespace spec_l13Values
def s2 {R : Type} (k : Nat) (rec : (List Int) × Int × Int → Option R) (kx0 : ((List Int) × Int → Option R)) (kr : ((List Int) × Int × Bool → Option R)) : (List Int) × Int × Int → Option R := fun (x0, x1, x5) =>
  (bif (decide (x5 < ((x0.length : Nat) : Int))) then (bif ((decide (0 ≤ x5)) && (decide (x5 < ((x0.length : Nat) : Int)))) then (bif (decide ((x0.getD (Int.toNat x5) (0 : Int)) < (-1 : Int))) then (kr (x0, x1, false)) else (rec (x0, x1, (IntKind.wrap .i64 (x5 + (1 : Int)))))) else none) else (kx0 (x0, x1)))
def l2 {R : Type} (k : Nat) : Nat → (List Int) × Int × Int → ((List Int) × Int → Option R) → ((List Int) × Int × Bool → Option R) → Option R
  | 0, _, _, _ => none
  | n + 1, v, kx0, kr => s2 k (fun w => l2 k n w kx0 kr) kx0 kr v
theorem l2_fix {R : Type} {k : Nat} {kx0 : ((List Int) × Int → Option R)} {kr : ((List Int) × Int × Bool → Option R)} (Inv : ((List Int) × Int × Int) → Prop) (μ : ((List Int) × Int × Int) → Nat) (G : ((List Int) × Int × Int) → Option R) (h : ∀ v rec, Inv v → (∀ w, Inv w → μ w < μ v → rec w = G w) → s2 k rec kx0 kr v = G v) : ∀ n v, Inv v → μ v < n → l2 k n v kx0 kr = G v := loop_fix (S := fun rec v => s2 k rec kx0 kr v) (fun _ _ => rfl) Inv μ G h
theorem l2_for {R : Type} {k : Nat} {kx0 : ((List Int) × Int → Option R)} {kr : ((List Int) × Int × Bool → Option R)} (N : Nat) (Inv : Nat → ((List Int)) → (Int) → Prop) (G : Nat → ((List Int)) → (Int) → Option R) (h : ∀ (i : Nat) (x0 : (List Int)) (x1 : Int) (rec : (List Int) × Int × Int → Option R), i ≤ N → Inv i x0 x1 → (∀ (x0' : (List Int)) (x1' : Int), i < N → Inv (i + 1) x0' x1' → rec (x0', x1', ((i : Int) + 1)) = G (i + 1) x0' x1') → s2 k rec kx0 kr (x0, x1, (i : Int)) = G i x0 x1) : ∀ (n i : Nat) (x0 : (List Int)) (x1 : Int), i ≤ N → Inv i x0 x1 → N - i < n → l2 k n (x0, x1, (i : Int)) kx0 kr = G i x0 x1 := by
  intro n
  induction n with
  | zero => intro i x0 x1 _ _ h0; omega
  | succ n ih =>
    intro i x0 x1 hi hv hn
    exact h i x0 x1 (fun w => l2 k n w kx0 kr) hi hv (fun x0' x1' hlt hv' => ih (i + 1) x0' x1' hlt hv' (by omega))
def f (k : Nat) (a0 : (List Int)) (a1 : Int) : (Option ((Bool × Unit) × (Unit))) :=
  (l2 k k (a0, a1, (0 : Int)) (fun (o1, o2) => (some (((((o1.length : Nat) : Int) == o2), ()), ()))) (fun (o3, o4, o5) => (some ((o5, ()), ()))))
end spec_l13Values

/-! ### loop.example/g00910/spec.l13Code -/
namespace spec_l13Code
def f (k : Nat) (a0 : (List Int)) (a1 : (List Int)) : (Option ((Int × Unit) × (Unit))) :=
  ((spec_l13Seats.f k ((a1.length : Nat) : Int)).bind fun r1 => (bif (!r1.1.1) then (some (((2 : Int), ()), ())) else ((spec_l13Winners.f k a0 ((a1.length : Nat) : Int)).bind fun r2 => (bif (!r2.1.1) then (some (((1 : Int), ()), ())) else ((spec_l13Values.f k a1 ((a1.length : Nat) : Int)).bind fun r3 => (bif (!r3.1.1) then (some (((2 : Int), ()), ())) else (some (((0 : Int), ()), ()))))))))
end spec_l13Code

/-! ### loop.example/g00910/spec.l13Best -/
namespace spec_l13Best
def s4 {R : Type} (k : Nat) (rec : (List Int) × (List Int) × Bool × Int × Int × (List Int) → Option R) (kx0 : ((List Int) → Option R)) : (List Int) × (List Int) × Bool × Int × Int × (List Int) → Option R := fun (x0, x1, x2, x8, x9, y0) =>
  (bif (decide (x9 < ((x0.length : Nat) : Int))) then (bif ((decide (0 ≤ x9)) && (decide (x9 < ((x0.length : Nat) : Int)))) then (bif ((decide (0 ≤ (x0.getD (Int.toNat x9) (0 : Int)))) && (decide ((x0.getD (Int.toNat x9) (0 : Int)) < ((x1.length : Nat) : Int)))) then (bif (decide ((x1.getD (Int.toNat (x0.getD (Int.toNat x9) (0 : Int))) (0 : Int)) < (0 : Int))) then (rec (x0, x1, x2, x8, (IntKind.wrap .i64 (x9 + (1 : Int))), y0)) else (bif (decide (x8 < (0 : Int))) then (bif ((decide (0 ≤ x9)) && (decide (x9 < ((x0.length : Nat) : Int)))) then (rec (x0, x1, x2, (x1.getD (Int.toNat (x0.getD (Int.toNat x9) (0 : Int))) (0 : Int)), (IntKind.wrap .i64 (x9 + (1 : Int))), ([(x0.getD (Int.toNat x9) (0 : Int))] : List Int))) else none) else (bif x2 then (bif (decide ((x1.getD (Int.toNat (x0.getD (Int.toNat x9) (0 : Int))) (0 : Int)) > x8)) then (bif ((decide (0 ≤ x9)) && (decide (x9 < ((x0.length : Nat) : Int)))) then (rec (x0, x1, x2, (x1.getD (Int.toNat (x0.getD (Int.toNat x9) (0 : Int))) (0 : Int)), (IntKind.wrap .i64 (x9 + (1 : Int))), ([(x0.getD (Int.toNat x9) (0 : Int))] : List Int))) else none) else (bif (!x2) then (bif (decide ((x1.getD (Int.toNat (x0.getD (Int.toNat x9) (0 : Int))) (0 : Int)) < x8)) then (bif ((decide (0 ≤ x9)) && (decide (x9 < ((x0.length : Nat) : Int)))) then (rec (x0, x1, x2, (x1.getD (Int.toNat (x0.getD (Int.toNat x9) (0 : Int))) (0 : Int)), (IntKind.wrap .i64 (x9 + (1 : Int))), ([(x0.getD (Int.toNat x9) (0 : Int))] : List Int))) else none) else (bif ((x1.getD (Int.toNat (x0.getD (Int.toNat x9) (0 : Int))) (0 : Int)) == x8) then (bif ((decide (0 ≤ x9)) && (decide (x9 < ((x0.length : Nat) : Int)))) then (bif (decide ((y0.length + ([(x0.getD (Int.toNat x9) (0 : Int))] : List Int).length) * 8 ≤ AM.maxBytes)) then (rec (x0, x1, x2, x8, (IntKind.wrap .i64 (x9 + (1 : Int))), (y0 ++ ([(x0.getD (Int.toNat x9) (0 : Int))] : List Int)))) else none) else none) else (rec (x0, x1, x2, x8, (IntKind.wrap .i64 (x9 + (1 : Int))), y0)))) else (bif ((x1.getD (Int.toNat (x0.getD (Int.toNat x9) (0 : Int))) (0 : Int)) == x8) then (bif ((decide (0 ≤ x9)) && (decide (x9 < ((x0.length : Nat) : Int)))) then (bif (decide ((y0.length + ([(x0.getD (Int.toNat x9) (0 : Int))] : List Int).length) * 8 ≤ AM.maxBytes)) then (rec (x0, x1, x2, x8, (IntKind.wrap .i64 (x9 + (1 : Int))), (y0 ++ ([(x0.getD (Int.toNat x9) (0 : Int))] : List Int)))) else none) else none) else (rec (x0, x1, x2, x8, (IntKind.wrap .i64 (x9 + (1 : Int))), y0))))) else (bif (!x2) then (bif (decide ((x1.getD (Int.toNat (x0.getD (Int.toNat x9) (0 : Int))) (0 : Int)) < x8)) then (bif ((decide (0 ≤ x9)) && (decide (x9 < ((x0.length : Nat) : Int)))) then (rec (x0, x1, x2, (x1.getD (Int.toNat (x0.getD (Int.toNat x9) (0 : Int))) (0 : Int)), (IntKind.wrap .i64 (x9 + (1 : Int))), ([(x0.getD (Int.toNat x9) (0 : Int))] : List Int))) else none) else (bif ((x1.getD (Int.toNat (x0.getD (Int.toNat x9) (0 : Int))) (0 : Int)) == x8) then (bif ((decide (0 ≤ x9)) && (decide (x9 < ((x0.length : Nat) : Int)))) then (bif (decide ((y0.length + ([(x0.getD (Int.toNat x9) (0 : Int))] : List Int).length) * 8 ≤ AM.maxBytes)) then (rec (x0, x1, x2, x8, (IntKind.wrap .i64 (x9 + (1 : Int))), (y0 ++ ([(x0.getD (Int.toNat x9) (0 : Int))] : List Int)))) else none) else none) else (rec (x0, x1, x2, x8, (IntKind.wrap .i64 (x9 + (1 : Int))), y0)))) else (bif ((x1.getD (Int.toNat (x0.getD (Int.toNat x9) (0 : Int))) (0 : Int)) == x8) then (bif ((decide (0 ≤ x9)) && (decide (x9 < ((x0.length : Nat) : Int)))) then (bif (decide ((y0.length + ([(x0.getD (Int.toNat x9) (0 : Int))] : List Int).length) * 8 ≤ AM.maxBytes)) then (rec (x0, x1, x2, x8, (IntKind.wrap .i64 (x9 + (1 : Int))), (y0 ++ ([(x0.getD (Int.toNat x9) (0 : Int))] : List Int)))) else none) else none) else (rec (x0, x1, x2, x8, (IntKind.wrap .i64 (x9 + (1 : Int))), y0))))))) else none) else none) else (kx0 y0))
def l4 {R : Type} (k : Nat) : Nat → (List Int) × (List Int) × Bool × Int × Int × (List Int) → ((List Int) → Option R) → Option R
  | 0, _, _ => none
  | n + 1, v, kx0 => s4 k (fun w => l4 k n w kx0) kx0 v
theorem l4_fix {R : Type} {k : Nat} {kx0 : ((List Int) → Option R)} (Inv : ((List Int) × (List Int) × Bool × Int × Int × (List Int)) → Prop) (μ : ((List Int) × (List Int) × Bool × Int × Int × (List Int)) → Nat) (G : ((List Int) × (List Int) × Bool × Int × Int × (List Int)) → Option R) (h : ∀ v rec, Inv v → (∀ w, Inv w → μ w < μ v → rec w = G w) → s4 k rec kx0 v = G v) : ∀ n v, Inv v → μ v < n → l4 k n v kx0 = G v := loop_fix (S := fun rec v => s4 k rec kx0 v) (fun _ _ => rfl) Inv μ G h
theorem l4_for {R : Type} {k : Nat} {kx0 : ((List Int) → Option R)} (N : Nat) (Inv : Nat → ((List Int)) → ((List Int)) → (Bool) → (Int) → ((List Int)) → Prop) (G : Nat → ((List Int)) → ((List Int)) → (Bool) → (Int) → ((List Int)) → Option R) (h : ∀ (i : Nat) (x0 : (List Int)) (x1 : (List Int)) (x2 : Bool) (x8 : Int) (y0 : (List Int)) (rec : (List Int) × (List Int) × Bool × Int × Int × (List Int) → Option R), i ≤ N → Inv i x0 x1 x2 x8 y0 → (∀ (x0' : (List Int)) (x1' : (List Int)) (x2' : Bool) (x8' : Int) (y0' : (List Int)), i < N → Inv (i + 1) x0' x1' x2' x8' y0' → rec (x0', x1', x2', x8', ((i : Int) + 1), y0') = G (i + 1) x0' x1' x2' x8' y0') → s4 k rec kx0 (x0, x1, x2, x8, (i : Int), y0) = G i x0 x1 x2 x8 y0) : ∀ (n i : Nat) (x0 : (List Int)) (x1 : (List Int)) (x2 : Bool) (x8 : Int) (y0 : (List Int)), i ≤ N → Inv i x0 x1 x2 x8 y0 → N - i < n → l4 k n (x0, x1, x2, x8, (i : Int), y0) kx0 = G i x0 x1 x2 x8 y0 := by
  intro n
  induction n with
  | zero => intro i x0 x1 x2 x8 y0 _ _ h0; omega
  | succ n ih =>
    intro i x0 x1 x2 x8 y0 hi hv hn
    exact h i x0 x1 x2 x8 y0 (fun w => l4 k n w kx0) hi hv (fun x0' x1' x2' x8' y0' hlt hv' => ih (i + 1) x0' x1' x2' x8' y0' hlt hv' (by omega))
def f (k : Nat) (a0 : (List Int)) (a1 : (List Int)) (a2 : Bool) : (Option (((List Int) × Unit) × (Unit))) :=
  (l4 k k (a0, a1, a2, (-1 : Int), (0 : Int), ([] : List Int)) (fun o1 => (some ((o1, ()), ()))))
end spec_l13Best

/-! ### loop.example/g00910/spec.l13Some -/
namespace spec_l13Some
def f (k : Nat) (a0 : (List Int)) (a1 : (List Int)) (a2 : Bool) : (Option (((List Int) × Int × Unit) × (Unit))) :=
  ((spec_l13Code.f k a0 a1).bind fun r1 => (bif (r1.1.1 != (0 : Int)) then (some ((([] : List Int), (r1.1.1, ())), ())) else ((spec_l13Best.f k a0 a1 a2).bind fun r2 => (bif (((r2.1.1.length : Nat) : Int) == (0 : Int)) then (some ((([] : List Int), ((4 : Int), ())), ())) else (some ((r2.1.1, ((0 : Int), ())), ()))))))
end spec_l13Some

/-! ### loop.example/g00910/spec.LowWinners -/
namespace spec_LowWinners
def f (k : Nat) (a0 : (List Int)) (a1 : (List Int)) : (Option (((List Int) × Int × Unit) × (Unit))) :=
  ((spec_l13Some.f k a0 a1 false).bind fun r1 => (some ((r1.1.1, (r1.1.2.1, ())), ())))
end spec_LowWinners

/-! ### loop.example/g00910/impl.within -/
namespace impl_within
def f (k : Nat) (a0 : Int) (a1 : Int) (a2 : Int) : (Option ((Bool × Unit) × (Unit))) :=
  (bif (decide (a0 ≥ a1)) then (some (((decide (a0 ≤ a2)), ()), ())) else (some ((false, ()), ())))
end impl_within

/-! ### loop.example/g00910/impl.allWithin -/
namespace impl_allWithin
def s2 {R : Type} (k : Nat) (rec : Int × Int × (List Int) × Int × Int → Option R) (kx0 : (Unit → Option R)) (kr : (Bool → Option R)) : Int × Int × (List Int) × Int × Int → Option R := fun (x1, x2, x9, x10, x11) =>
  (bif (decide (x11 < x10)) then (bif ((decide (0 ≤ x11)) && (decide (x11 < ((x9.length : Nat) : Int)))) then ((impl_within.f k (x9.getD (Int.toNat x11) (0 : Int)) x1 x2).bind fun r1 => (bif (!r1.1.1) then (kr false) else (rec (x1, x2, x9, x10, (IntKind.wrap .i64 (x11 + (1 : Int))))))) else none) else (kx0 ()))
def l2 {R : Type} (k : Nat) : Nat → Int × Int × (List Int) × Int × Int → (Unit → Option R) → (Bool → Option R) → Option R
  | 0, _, _, _ => none
  | n + 1, v, kx0, kr => s2 k (fun w => l2 k n w kx0 kr) kx0 kr v
theorem l2_fix {R : Type} {k : Nat} {kx0 : (Unit → Option R)} {kr : (Bool → Option R)} (Inv : (Int × Int × (List Int) × Int × Int) → Prop) (μ : (Int × Int × (List Int) × Int × Int) → Nat) (G : (Int × Int × (List Int) × Int × Int) → Option R) (h : ∀ v rec, Inv v → (∀ w, Inv w → μ w < μ v → rec w = G w) → s2 k rec kx0 kr v = G v) : ∀ n v, Inv v → μ v < n → l2 k n v kx0 kr = G v := loop_fix (S := fun rec v => s2 k rec kx0 kr v) (fun _ _ => rfl) Inv μ G h
theorem l2_for {R : Type} {k : Nat} {kx0 : (Unit → Option R)} {kr : (Bool → Option R)} (N : Nat) (Inv : Nat → (Int) → (Int) → ((List Int)) → (Int) → Prop) (G : Nat → (Int) → (Int) → ((List Int)) → (Int) → Option R) (h : ∀ (i : Nat) (x1 : Int) (x2 : Int) (x9 : (List Int)) (x10 : Int) (rec : Int × Int × (List Int) × Int × Int → Option R), i ≤ N → Inv i x1 x2 x9 x10 → (∀ (x1' : Int) (x2' : Int) (x9' : (List Int)) (x10' : Int), i < N → Inv (i + 1) x1' x2' x9' x10' → rec (x1', x2', x9', x10', ((i : Int) + 1)) = G (i + 1) x1' x2' x9' x10') → s2 k rec kx0 kr (x1, x2, x9, x10, (i : Int)) = G i x1 x2 x9 x10) : ∀ (n i : Nat) (x1 : Int) (x2 : Int) (x9 : (List Int)) (x10 : Int), i ≤ N → Inv i x1 x2 x9 x10 → N - i < n → l2 k n (x1, x2, x9, x10, (i : Int)) kx0 kr = G i x1 x2 x9 x10 := by
  intro n
  induction n with
  | zero => intro i x1 x2 x9 x10 _ _ h0; omega
  | succ n ih =>
    intro i x1 x2 x9 x10 hi hv hn
    exact h i x1 x2 x9 x10 (fun w => l2 k n w kx0 kr) hi hv (fun x1' x2' x9' x10' hlt hv' => ih (i + 1) x1' x2' x9' x10' hlt hv' (by omega))
def f (k : Nat) (a0 : (List Int)) (a1 : Int) (a2 : Int) : (Option ((Bool × Unit) × (Unit))) :=
  (l2 k k (a1, a2, a0, ((a0.length : Nat) : Int), (0 : Int)) (fun (_ : Unit) => (some ((true, ()), ()))) (fun o2 => (some ((o2, ()), ()))))
end impl_allWithin

/-! ### loop.example/g00910/impl.increasing -/
namespace impl_increasing
def s2 {R : Type} (k : Nat) (rec : (List Int) × Int → Option R) (kx0 : (Unit → Option R)) (kr : (Bool → Option R)) : (List Int) × Int → Option R := fun (x0, x3) =>
  (bif (decide (x3 < ((x0.length : Nat) : Int))) then (bif ((decide (0 ≤ (IntKind.wrap .i64 (x3 - (1 : Int))))) && (decide ((IntKind.wrap .i64 (x3 - (1 : Int))) < ((x0.length : Nat) : Int)))) then (bif ((decide (0 ≤ x3)) && (decide (x3 < ((x0.length : Nat) : Int)))) then (bif (decide ((x0.getD (Int.toNat (IntKind.wrap .i64 (x3 - (1 : Int)))) (0 : Int)) ≥ (x0.getD (Int.toNat x3) (0 : Int)))) then (kr false) else (rec (x0, (IntKind.wrap .i64 (x3 + (1 : Int)))))) else none) else none) else (kx0 ()))
def l2 {R : Type} (k : Nat) : Nat → (List Int) × Int → (Unit → Option R) → (Bool → Option R) → Option R
  | 0, _, _, _ => none
  | n + 1, v, kx0, kr => s2 k (fun w => l2 k n w kx0 kr) kx0 kr v
theorem l2_fix {R : Type} {k : Nat} {kx0 : (Unit → Option R)} {kr : (Bool → Option R)} (Inv : ((List Int) × Int) → Prop) (μ : ((List Int) × Int) → Nat) (G : ((List Int) × Int) → Option R) (h : ∀ v rec, Inv v → (∀ w, Inv w → μ w < μ v → rec w = G w) → s2 k rec kx0 kr v = G v) : ∀ n v, Inv v → μ v < n → l2 k n v kx0 kr = G v := loop_fix (S := fun rec v => s2 k rec kx0 kr v) (fun _ _ => rfl) Inv μ G h
theorem l2_for {R : Type} {k : Nat} {kx0 : (Unit → Option R)} {kr : (Bool → Option R)} (N : Nat) (Inv : Nat → ((List Int)) → Prop) (G : Nat → ((List Int)) → Option R) (h : ∀ (i : Nat) (x0 : (List Int)) (rec : (List Int) × Int → Option R), i ≤ N → Inv i x0 → (∀ (x0' : (List Int)), i < N → Inv (i + 1) x0' → rec (x0', ((i : Int) + 1)) = G (i + 1) x0') → s2 k rec kx0 kr (x0, (i : Int)) = G i x0) : ∀ (n i : Nat) (x0 : (List Int)), i ≤ N → Inv i x0 → N - i < n → l2 k n (x0, (i : Int)) kx0 kr = G i x0 := by
  intro n
  induction n with
  | zero => intro i x0 _ _ h0; omega
  | succ n ih =>
    intro i x0 hi hv hn
    exact h i x0 (fun w => l2 k n w kx0 kr) hi hv (fun x0' hlt hv' => ih (i + 1) x0' hlt hv' (by omega))
def f (k : Nat) (a0 : (List Int)) : (Option ((Bool × Unit) × (Unit))) :=
  (l2 k k (a0, (1 : Int)) (fun (_ : Unit) => (some ((true, ()), ()))) (fun o1 => (some ((o1, ()), ()))))
end impl_increasing

/-! ### loop.example/g00910/impl.areWinners -/
namespace impl_areWinners
def f (k : Nat) (a0 : (List Int)) (a1 : Int) : (Option ((Bool × Unit) × (Unit))) :=
  (bif (decide (((a0.length : Nat) : Int) > (0 : Int))) then ((impl_allWithin.f k a0 (0 : Int) (IntKind.wrap .i64 (a1 - (1 : Int)))).bind fun r1 => (bif r1.1.1 then ((impl_increasing.f k a0).bind fun r2 => (some ((r2.1.1, ()), ()))) else (some ((false, ()), ())))) else (some ((false, ()), ())))
end impl_areWinners

/-! ### loop.example/g00910/impl.areValues$1 -/
namespace impl_areValues_1
def f (k : Nat) (a0 : Int) : (Option ((Bool × Unit) × (Unit))) :=
  (some (((decide (a0 < (-1 : Int))), ()), ()))
end impl_areValues_1

/-! ### loop.example/g00910/impl.areValues -/
namespace impl_areValues
def i1001_i1002_s2 {R : Type} (k : Nat) (rec : (List Int) × Int × Int → Option R) (kx0 : (Unit → Option R)) (kr : (Int → Option R)) : (List Int) × Int × Int → Option R := fun (x0, x7, x8) =>
  (bif (decide (x8 < x7)) then (bif ((decide (0 ≤ x8)) && (decide (x8 < ((x0.length : Nat) : Int)))) then ((impl_areValues_1.f k (x0.getD (Int.toNat x8) (0 : Int))).bind fun r1 => (bif r1.1.1 then (kr x8) else (rec (x0, x7, (IntKind.wrap .i64 (x8 + (1 : Int))))))) else none) else (kx0 ()))
def i1001_i1002_l2 {R : Type} (k : Nat) : Nat → (List Int) × Int × Int → (Unit → Option R) → (Int → Option R) → Option R
  | 0, _, _, _ => none
  | n + 1, v, kx0, kr => i1001_i1002_s2 k (fun w => i1001_i1002_l2 k n w kx0 kr) kx0 kr v
theorem i1001_i1002_l2_fix {R : Type} {k : Nat} {kx0 : (Unit → Option R)} {kr : (Int → Option R)} (Inv : ((List Int) × Int × Int) → Prop) (μ : ((List Int) × Int × Int) → Nat) (G : ((List Int) × Int × Int) → Option R) (h : ∀ v rec, Inv v → (∀ w, Inv w → μ w < μ v → rec w = G w) → i1001_i1002_s2 k rec kx0 kr v = G v) : ∀ n v, Inv v → μ v < n → i1001_i1002_l2 k n v kx0 kr = G v := loop_fix (S := fun rec v => i1001_i1002_s2 k rec kx0 kr v) (fun _ _ => rfl) Inv μ G h
theorem i1001_i1002_l2_for {R : Type} {k : Nat} {kx0 : (Unit → Option R)} {kr : (Int → Option R)} (N : Nat) (Inv : Nat → ((List Int)) → (Int) → Prop) (G : Nat → ((List Int)) → (Int) → Option R) (h : ∀ (i : Nat) (x0 : (List Int)) (x7 : Int) (rec : (List Int) × Int × Int → Option R), i ≤ N → Inv i x0 x7 → (∀ (x0' : (List Int)) (x7' : Int), i < N → Inv (i + 1) x0' x7' → rec (x0', x7', ((i : Int) + 1)) = G (i + 1) x0' x7') → i1001_i1002_s2 k rec kx0 kr (x0, x7, (i : Int)) = G i x0 x7) : ∀ (n i : Nat) (x0 : (List Int)) (x7 : Int), i ≤ N → Inv i x0 x7 → N - i < n → i1001_i1002_l2 k n (x0, x7, (i : Int)) kx0 kr = G i x0 x7 := by
  intro n
  induction n with
  | zero => intro i x0 x7 _ _ h0; omega
  | succ n ih =>
    intro i x0 x7 hi hv hn
    exact h i x0 x7 (fun w => i1001_i1002_l2 k n w kx0 kr) hi hv (fun x0' x7' hlt hv' => ih (i + 1) x0' x7' hlt hv' (by omega))
def f (k : Nat) (a0 : (List Int)) : (Option ((Bool × Unit) × (Unit))) :=
  (i1001_i1002_l2 k k (a0, ((a0.length : Nat) : Int), (0 : Int)) (fun (_ : Unit) => (some (((!(decide ((-1 : Int) ≥ (0 : Int)))), ()), ()))) (fun o2 => (some (((!(decide (o2 ≥ (0 : Int)))), ()), ()))))
end impl_areValues

/-! ### loop.example/g00910/impl.checkValues -/
namespace impl_checkValues
def f (k : Nat) (a0 : (List Int)) (a1 : (List Int)) : (Option ((Int × Unit) × (Unit))) :=
  ((impl_within.f k ((a1.length : Nat) : Int) (2 : Int) (6 : Int)).bind fun r1 => (bif (!r1.1.1) then (some (((2 : Int), ()), ())) else ((impl_areWinners.f k a0 ((a1.length : Nat) : Int)).bind fun r2 => (bif (!r2.1.1) then (some (((1 : Int), ()), ())) else ((impl_areValues.f k a1).bind fun r3 => (bif (!r3.1.1) then (some (((2 : Int), ()), ())) else (some (((0 : Int), ()), ()))))))))
end impl_checkValues

/-! ### loop.example/g00910/impl.lowWinners -/
namespace impl_lowWinners
def s4 {R : Type} (k : Nat) (rec : (List Int) × Int × (List Int) × Int × Int × (List Int) → Option R) (kx0 : ((List Int) → Option R)) : (List Int) × Int × (List Int) × Int × Int × (List Int) → Option R := fun (x1, x6, x9, x10, x11, y0) =>
  (bif (decide (x11 < x10)) then (bif ((decide (0 ≤ x11)) && (decide (x11 < ((x9.length : Nat) : Int)))) then (bif ((decide (0 ≤ (x9.getD (Int.toNat x11) (0 : Int)))) && (decide ((x9.getD (Int.toNat x11) (0 : Int)) < ((x1.length : Nat) : Int)))) then (bif (decide ((x1.getD (Int.toNat (x9.getD (Int.toNat x11) (0 : Int))) (0 : Int)) < (0 : Int))) then (rec (x1, x6, x9, x10, (IntKind.wrap .i64 (x11 + (1 : Int))), y0)) else (bif (decide (x6 < (0 : Int))) then (bif ((decide (0 ≤ (x9.getD (Int.toNat x11) (0 : Int)))) && (decide ((x9.getD (Int.toNat x11) (0 : Int)) < ((x1.length : Nat) : Int)))) then (bif ((decide (0 ≤ (x9.getD (Int.toNat x11) (0 : Int)))) && (decide ((x9.getD (Int.toNat x11) (0 : Int)) < ((x1.length : Nat) : Int)))) then (bif ((x1.getD (Int.toNat (x9.getD (Int.toNat x11) (0 : Int))) (0 : Int)) == (x1.getD (Int.toNat (x9.getD (Int.toNat x11) (0 : Int))) (0 : Int))) then (bif (decide (([(x9.getD (Int.toNat x11) (0 : Int))] : List Int).length * 8 ≤ AM.maxBytes)) then (rec (x1, (x1.getD (Int.toNat (x9.getD (Int.toNat x11) (0 : Int))) (0 : Int)), x9, x10, (IntKind.wrap .i64 (x11 + (1 : Int))), ([(x9.getD (Int.toNat x11) (0 : Int))] : List Int))) else none) else (rec (x1, (x1.getD (Int.toNat (x9.getD (Int.toNat x11) (0 : Int))) (0 : Int)), x9, x10, (IntKind.wrap .i64 (x11 + (1 : Int))), ([] : List Int)))) else none) else none) else (bif ((decide (0 ≤ (x9.getD (Int.toNat x11) (0 : Int)))) && (decide ((x9.getD (Int.toNat x11) (0 : Int)) < ((x1.length : Nat) : Int)))) then (bif (decide ((x1.getD (Int.toNat (x9.getD (Int.toNat x11) (0 : Int))) (0 : Int)) < x6)) then (bif ((decide (0 ≤ (x9.getD (Int.toNat x11) (0 : Int)))) && (decide ((x9.getD (Int.toNat x11) (0 : Int)) < ((x1.length : Nat) : Int)))) then (bif ((decide (0 ≤ (x9.getD (Int.toNat x11) (0 : Int)))) && (decide ((x9.getD (Int.toNat x11) (0 : Int)) < ((x1.length : Nat) : Int)))) then (bif ((x1.getD (Int.toNat (x9.getD (Int.toNat x11) (0 : Int))) (0 : Int)) == (x1.getD (Int.toNat (x9.getD (Int.toNat x11) (0 : Int))) (0 : Int))) then (bif (decide (([(x9.getD (Int.toNat x11) (0 : Int))] : List Int).length * 8 ≤ AM.maxBytes)) then (rec (x1, (x1.getD (Int.toNat (x9.getD (Int.toNat x11) (0 : Int))) (0 : Int)), x9, x10, (IntKind.wrap .i64 (x11 + (1 : Int))), ([(x9.getD (Int.toNat x11) (0 : Int))] : List Int))) else none) else (rec (x1, (x1.getD (Int.toNat (x9.getD (Int.toNat x11) (0 : Int))) (0 : Int)), x9, x10, (IntKind.wrap .i64 (x11 + (1 : Int))), ([] : List Int)))) else none) else none) else (bif ((decide (0 ≤ (x9.getD (Int.toNat x11) (0 : Int)))) && (decide ((x9.getD (Int.toNat x11) (0 : Int)) < ((x1.length : Nat) : Int)))) then (bif ((x1.getD (Int.toNat (x9.getD (Int.toNat x11) (0 : Int))) (0 : Int)) == x6) then (bif (decide ((y0.length + ([(x9.getD (Int.toNat x11) (0 : Int))] : List Int).length) * 8 ≤ AM.maxBytes)) then (rec (x1, x6, x9, x10, (IntKind.wrap .i64 (x11 + (1 : Int))), (y0 ++ ([(x9.getD (Int.toNat x11) (0 : Int))] : List Int)))) else none) else (rec (x1, x6, x9, x10, (IntKind.wrap .i64 (x11 + (1 : Int))), y0))) else none)) else none))) else none) else none) else (kx0 y0))
def l4 {R : Type} (k : Nat) : Nat → (List Int) × Int × (List Int) × Int × Int × (List Int) → ((List Int) → Option R) → Option R
  | 0, _, _ => none
  | n + 1, v, kx0 => s4 k (fun w => l4 k n w kx0) kx0 v
theorem l4_fix {R : Type} {k : Nat} {kx0 : ((List Int) → Option R)} (Inv : ((List Int) × Int × (List Int) × Int × Int × (List Int)) → Prop) (μ : ((List Int) × Int × (List Int) × Int × Int × (List Int)) → Nat) (G : ((List Int) × Int × (List Int) × Int × Int × (List Int)) → Option R) (h : ∀ v rec, Inv v → (∀ w, Inv w → μ w < μ v → rec w = G w) → s4 k rec kx0 v = G v) : ∀ n v, Inv v → μ v < n → l4 k n v kx0 = G v := loop_fix (S := fun rec v => s4 k rec kx0 v) (fun _ _ => rfl) Inv μ G h
theorem l4_for {R : Type} {k : Nat} {kx0 : ((List Int) → Option R)} (N : Nat) (Inv : Nat → ((List Int)) → (Int) → ((List Int)) → (Int) → ((List Int)) → Prop) (G : Nat → ((List Int)) → (Int) → ((List Int)) → (Int) → ((List Int)) → Option R) (h : ∀ (i : Nat) (x1 : (List Int)) (x6 : Int) (x9 : (List Int)) (x10 : Int) (y0 : (List Int)) (rec : (List Int) × Int × (List Int) × Int × Int × (List Int) → Option R), i ≤ N → Inv i x1 x6 x9 x10 y0 → (∀ (x1' : (List Int)) (x6' : Int) (x9' : (List Int)) (x10' : Int) (y0' : (List Int)), i < N → Inv (i + 1) x1' x6' x9' x10' y0' → rec (x1', x6', x9', x10', ((i : Int) + 1), y0') = G (i + 1) x1' x6' x9' x10' y0') → s4 k rec kx0 (x1, x6, x9, x10, (i : Int), y0) = G i x1 x6 x9 x10 y0) : ∀ (n i : Nat) (x1 : (List Int)) (x6 : Int) (x9 : (List Int)) (x10 : Int) (y0 : (List Int)), i ≤ N → Inv i x1 x6 x9 x10 y0 → N - i < n → l4 k n (x1, x6, x9, x10, (i : Int), y0) kx0 = G i x1 x6 x9 x10 y0 := by
  intro n
  induction n with
  | zero => intro i x1 x6 x9 x10 y0 _ _ h0; omega
  | succ n ih =>
    intro i x1 x6 x9 x10 y0 hi hv hn
    exact h i x1 x6 x9 x10 y0 (fun w => l4 k n w kx0) hi hv (fun x1' x6' x9' x10' y0' hlt hv' => ih (i + 1) x1' x6' x9' x10' y0' hlt hv' (by omega))
def f (k : Nat) (a0 : (List Int)) (a1 : (List Int)) : (Option (((List Int) × Unit) × (Unit))) :=
  (l4 k k (a1, (-1 : Int), a0, ((a0.length : Nat) : Int), (0 : Int), ([] : List Int)) (fun o1 => (some ((o1, ()), ()))))
end impl_lowWinners

/-! ### loop.example/g00910/impl.LowWinners -/
namespace impl_LowWinners
def f (k : Nat) (a0 : (List Int)) (a1 : (List Int)) : (Option (((List Int) × Int × Unit) × (Unit))) :=
  ((impl_checkValues.f k a0 a1).bind fun r1 => (bif (r1.1.1 != (0 : Int)) then (some ((([] : List Int), (r1.1.1, ())), ())) else ((impl_lowWinners.f k a0 a1).bind fun r2 => (bif (((r2.1.1.length : Nat) : Int) == (0 : Int)) then (some ((([] : List Int), ((4 : Int), ())), ())) else (some ((r2.1.1, ((0 : Int), ())), ()))))))
end impl_LowWinners

/-! ### loop.example/g00910/laws.FnExactLowWinners -/
namespace laws_FnExactLowWinners
def f (k : Nat) (a0 : (List Int)) (a1 : (List Int)) : (Option ((Bool × Unit) × (Unit))) :=
  (bif (decide (((a0.length : Nat) : Int) > (1048576 : Int))) then (some ((true, ()), ())) else (bif (decide (((a1.length : Nat) : Int) > (1048576 : Int))) then (some ((true, ()), ())) else ((laws_toInt64S.f k a0).bind fun r1 => ((laws_toInt64S.f k a1).bind fun r2 => ((spec_LowWinners.f k r1.1.1 r2.1.1).bind fun r3 => ((laws_toInt64S.f k a0).bind fun r4 => ((laws_toInt64S.f k a1).bind fun r5 => ((impl_LowWinners.f k r4.1.1 r5.1.1).bind fun r6 => ((laws_eqInt64S.f k r6.1.1 r3.1.1).bind fun r7 => (bif (!r7.1.1) then (some ((false, ()), ())) else (bif (r6.1.2.1 != r3.1.2.1) then (some ((false, ()), ())) else ((laws_toInt64S.f k a0).bind fun r8 => ((laws_eqInt64S.f k r4.1.1 r8.1.1).bind fun r9 => (bif (!r9.1.1) then (some ((false, ()), ())) else ((laws_toInt64S.f k a1).bind fun r10 => ((laws_eqInt64S.f k r5.1.1 r10.1.1).bind fun r11 => (bif (!r11.1.1) then (some ((false, ()), ())) else ((laws_markInt64S.f k r4.1.1 (1 : Int)).bind fun r12 => ((laws_markInt64S.f k r5.1.1 r12.1.1).bind fun r13 => (bif (decide (r13.1.1 < (0 : Int))) then (some ((false, ()), ())) else ((laws_eqInt64S.f k r6.1.1 r3.1.1).bind fun r14 => (bif (!r14.1.1) then (some ((false, ()), ())) else (bif (r6.1.2.1 != r3.1.2.1) then (some ((false, ()), ())) else ((laws_markInt64S.f k r6.1.1 (1 : Int)).bind fun r15 => ((laws_heldInt64S.f k r15.2.1 (1 : Int)).bind fun r16 => (bif (decide (r16.1.1 < (0 : Int))) then (some ((false, ()), ())) else (bif (r16.1.1 != r15.1.1) then (some ((false, ()), ())) else ((laws_toInt64S.f k a0).bind fun r17 => ((laws_toInt64S.f k a1).bind fun r18 => ((impl_LowWinners.f k r17.1.1 r18.1.1).bind fun r19 => ((laws_eqInt64S.f k r19.1.1 r3.1.1).bind fun r20 => (bif (!r20.1.1) then (some ((false, ()), ())) else (bif (r19.1.2.1 != r3.1.2.1) then (some ((false, ()), ())) else ((laws_heldInt64S.f k r15.2.1 (1 : Int)).bind fun r21 => (bif (decide (r21.1.1 < (0 : Int))) then (some ((false, ()), ())) else (bif (r21.1.1 != r15.1.1) then (some ((false, ()), ())) else (some ((true, ()), ()))))))))))))))))))))))))))))))))))))))
end laws_FnExactLowWinners
end Go.Sh
