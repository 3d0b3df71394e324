/- For each Go function that the law reaches, a Lean function over plain values, and the rule of each of its loops; conditions: none. -/
import Derived.Test.YtipjcodpegpocaaPL
noncomputable section
set_option linter.unusedVariables false
namespace Go.Sh
open Go
/-! ### loop.example/g00910/laws.toInt64S -/
namespace laws_toInt64S
def s3 {R : Type} (k : Nat) (rec : (List Int) × Int × (List Int) → Option R) (kx0 : ((List Int) → Option R)) : (List Int) × Int × (List Int) → Option R := fun (x0, x4, y0) =>
  (bif (decide (x4 < ((x0.length : Nat) : Int))) then (bif ((decide (0 ≤ x4)) && (decide (x4 < ((x0.length : Nat) : Int)))) then (bif ((decide (0 ≤ x4)) && (decide (x4 < ((y0.length : Nat) : Int)))) then (bif (decide ((Int.toNat x4) < y0.length)) then (rec (x0, (IntKind.wrap .i64 (x4 + (1 : Int))), (y0.set (Int.toNat x4) (x0.getD (Int.toNat x4) (0 : Int))))) else none) else none) else none) else (kx0 y0))
def l3 {R : Type} (k : Nat) : Nat → (List Int) × Int × (List Int) → ((List Int) → Option R) → Option R
  | 0, _, _ => none
  | n + 1, v, kx0 => s3 k (fun w => l3 k n w kx0) kx0 v
theorem l3_fix {R : Type} {k : Nat} {kx0 : ((List Int) → Option R)} (Inv : ((List Int) × Int × (List Int)) → Prop) (μ : ((List Int) × Int × (List Int)) → Nat) (G : ((List Int) × Int × (List Int)) → Option R) (h : ∀ v rec, Inv v → (∀ w, Inv w → μ w < μ v → rec w = G w) → s3 k rec kx0 v = G v) : ∀ n v, Inv v → μ v < n → l3 k n v kx0 = G v := loop_fix (S := fun rec v => s3 k rec kx0 v) (fun _ _ => rfl) Inv μ G h
theorem l3_for {R : Type} {k : Nat} {kx0 : ((List Int) → Option R)} (N : Nat) (Inv : Nat → ((List Int)) → ((List Int)) → Prop) (G : Nat → ((List Int)) → ((List Int)) → Option R) (h : ∀ (i : Nat) (x0 : (List Int)) (y0 : (List Int)) (rec : (List Int) × Int × (List Int) → Option R), i ≤ N → Inv i x0 y0 → (∀ (x0' : (List Int)) (y0' : (List Int)), i < N → Inv (i + 1) x0' y0' → rec (x0', ((i : Int) + 1), y0') = G (i + 1) x0' y0') → s3 k rec kx0 (x0, (i : Int), y0) = G i x0 y0) : ∀ (n i : Nat) (x0 : (List Int)) (y0 : (List Int)), i ≤ N → Inv i x0 y0 → N - i < n → l3 k n (x0, (i : Int), y0) kx0 = G i x0 y0 := by
  intro n
  induction n with
  | zero => intro i x0 y0 _ _ h0; omega
  | succ n ih =>
    intro i x0 y0 hi hv hn
    exact h i x0 y0 (fun w => l3 k n w kx0) hi hv (fun x0' y0' hlt hv' => ih (i + 1) x0' y0' hlt hv' (by omega))
def f (k : Nat) (a0 : (List Int)) : (Option (((List Int) × Unit) × (Unit))) :=
  (bif ((decide (0 ≤ ((a0.length : Nat) : Int))) && ((decide (((a0.length : Nat) : Int) ≤ ((a0.length : Nat) : Int))) && (decide (((a0.length : Nat) : Int) * ((8 : Nat) : Int) ≤ (AM.maxBytes : Int))))) then (l3 k k (a0, (0 : Int), (List.replicate (Int.toNat ((a0.length : Nat) : Int)) (0 : Int))) (fun o1 => (some ((o1, ()), ())))) else none)
end laws_toInt64S

/-! ### loop.example/g00910/laws.eqInt64S -/
namespace laws_eqInt64S
def s4 {R : Type} (k : Nat) (rec : (List Int) × (List Int) × Int → Option R) (kx0 : (Unit → Option R)) (kr : (Bool → Option R)) : (List Int) × (List Int) × Int → Option R := fun (x0, x1, x5) =>
  (bif (decide (x5 < ((x0.length : Nat) : Int))) then (bif ((decide (0 ≤ x5)) && (decide (x5 < ((x0.length : Nat) : Int)))) then (bif ((decide (0 ≤ x5)) && (decide (x5 < ((x1.length : Nat) : Int)))) then (bif ((x0.getD (Int.toNat x5) (0 : Int)) != (x1.getD (Int.toNat x5) (0 : Int))) then (kr false) else (rec (x0, x1, (IntKind.wrap .i64 (x5 + (1 : Int)))))) else none) else none) else (kx0 ()))
def l4 {R : Type} (k : Nat) : Nat → (List Int) × (List Int) × Int → (Unit → Option R) → (Bool → Option R) → Option R
  | 0, _, _, _ => none
  | n + 1, v, kx0, kr => s4 k (fun w => l4 k n w kx0 kr) kx0 kr v
theorem l4_fix {R : Type} {k : Nat} {kx0 : (Unit → Option R)} {kr : (Bool → Option R)} (Inv : ((List Int) × (List Int) × Int) → Prop) (μ : ((List Int) × (List Int) × Int) → Nat) (G : ((List Int) × (List Int) × Int) → Option R) (h : ∀ v rec, Inv v → (∀ w, Inv w → μ w < μ v → rec w = G w) → s4 k rec kx0 kr v = G v) : ∀ n v, Inv v → μ v < n → l4 k n v kx0 kr = G v := loop_fix (S := fun rec v => s4 k rec kx0 kr v) (fun _ _ => rfl) Inv μ G h
theorem l4_for {R : Type} {k : Nat} {kx0 : (Unit → Option R)} {kr : (Bool → Option R)} (N : Nat) (Inv : Nat → ((List Int)) → ((List Int)) → Prop) (G : Nat → ((List Int)) → ((List Int)) → Option R) (h : ∀ (i : Nat) (x0 : (List Int)) (x1 : (List Int)) (rec : (List Int) × (List Int) × Int → Option R), i ≤ N → Inv i x0 x1 → (∀ (x0' : (List Int)) (x1' : (List Int)), i < N → Inv (i + 1) x0' x1' → rec (x0', x1', ((i : Int) + 1)) = G (i + 1) x0' x1') → s4 k rec kx0 kr (x0, x1, (i : Int)) = G i x0 x1) : ∀ (n i : Nat) (x0 : (List Int)) (x1 : (List Int)), i ≤ N → Inv i x0 x1 → N - i < n → l4 k n (x0, x1, (i : Int)) kx0 kr = G i x0 x1 := by
  intro n
  induction n with
  | zero => intro i x0 x1 _ _ h0; omega
  | succ n ih =>
    intro i x0 x1 hi hv hn
    exact h i x0 x1 (fun w => l4 k n w kx0 kr) hi hv (fun x0' x1' hlt hv' => ih (i + 1) x0' x1' hlt hv' (by omega))
def f (k : Nat) (a0 : (List Int)) (a1 : (List Int)) : (Option ((Bool × Unit) × (Unit))) :=
  (bif (((a0.length : Nat) : Int) != ((a1.length : Nat) : Int)) then (some ((false, ()), ())) else (l4 k k (a0, a1, (0 : Int)) (fun (_ : Unit) => (some ((true, ()), ()))) (fun o1 => (some ((o1, ()), ())))))
end laws_eqInt64S

/-! ### loop.example/g00910/laws.markInt64S -/
namespace laws_markInt64S
def s2 {R : Type} (k : Nat) (rec : Int × Int × (List Int) → Option R) (kx0 : (Int × (List Int) → Option R)) : Int × Int × (List Int) → Option R := fun (x1, x5, y0) =>
  (bif (decide (x5 < ((y0.length : Nat) : Int))) then (bif ((decide (0 ≤ x5)) && (decide (x5 < ((y0.length : Nat) : Int)))) then (bif (decide ((Int.toNat x5) < y0.length)) then (rec ((IntKind.wrap .i64 (x1 + (1 : Int))), (IntKind.wrap .i64 (x5 + (1 : Int))), (y0.set (Int.toNat x5) x1))) else none) else none) else (kx0 (x1, y0)))
def l2 {R : Type} (k : Nat) : Nat → Int × Int × (List Int) → (Int × (List Int) → Option R) → Option R
  | 0, _, _ => none
  | n + 1, v, kx0 => s2 k (fun w => l2 k n w kx0) kx0 v
theorem l2_fix {R : Type} {k : Nat} {kx0 : (Int × (List Int) → Option R)} (Inv : (Int × Int × (List Int)) → Prop) (μ : (Int × Int × (List Int)) → Nat) (G : (Int × Int × (List Int)) → Option R) (h : ∀ v rec, Inv v → (∀ w, Inv w → μ w < μ v → rec w = G w) → s2 k rec kx0 v = G v) : ∀ n v, Inv v → μ v < n → l2 k n v kx0 = G v := loop_fix (S := fun rec v => s2 k rec kx0 v) (fun _ _ => rfl) Inv μ G h
theorem l2_for {R : Type} {k : Nat} {kx0 : (Int × (List Int) → Option R)} (N : Nat) (Inv : Nat → (Int) → ((List Int)) → Prop) (G : Nat → (Int) → ((List Int)) → Option R) (h : ∀ (i : Nat) (x1 : Int) (y0 : (List Int)) (rec : Int × Int × (List Int) → Option R), i ≤ N → Inv i x1 y0 → (∀ (x1' : Int) (y0' : (List Int)), i < N → Inv (i + 1) x1' y0' → rec (x1', ((i : Int) + 1), y0') = G (i + 1) x1' y0') → s2 k rec kx0 (x1, (i : Int), y0) = G i x1 y0) : ∀ (n i : Nat) (x1 : Int) (y0 : (List Int)), i ≤ N → Inv i x1 y0 → N - i < n → l2 k n (x1, (i : Int), y0) kx0 = G i x1 y0 := by
  intro n
  induction n with
  | zero => intro i x1 y0 _ _ h0; omega
  | succ n ih =>
    intro i x1 y0 hi hv hn
    exact h i x1 y0 (fun w => l2 k n w kx0) hi hv (fun x1' y0' hlt hv' => ih (i + 1) x1' y0' hlt hv' (by omega))
def f (k : Nat) (a0 : (List Int)) (a1 : Int) : (Option ((Int × Unit) × ((List Int) × Unit))) :=
  (l2 k k (a1, (0 : Int), a0) (fun (o1, o2) => (some ((o1, ()), (o2, ())))))
end laws_markInt64S

/-! ### loop.example/g00910/laws.heldInt64S -/
namespace laws_heldInt64S
def s2 {R : Type} (k : Nat) (rec : (List Int) × Int × Int → Option R) (kx0 : (Int → Option R)) (kr : (Int × Int → Option R)) : (List Int) × Int × Int → Option R := fun (x0, x1, x5) =>
  (bif (decide (x5 < ((x0.length : Nat) : Int))) then (bif ((decide (0 ≤ x5)) && (decide (x5 < ((x0.length : Nat) : Int)))) then (bif ((x0.getD (Int.toNat x5) (0 : Int)) != x1) then (kr (x1, (-1 : Int))) else (rec (x0, (IntKind.wrap .i64 (x1 + (1 : Int))), (IntKind.wrap .i64 (x5 + (1 : Int)))))) else none) else (kx0 x1))
def l2 {R : Type} (k : Nat) : Nat → (List Int) × Int × Int → (Int → Option R) → (Int × Int → Option R) → Option R
  | 0, _, _, _ => none
  | n + 1, v, kx0, kr => s2 k (fun w => l2 k n w kx0 kr) kx0 kr v
theorem l2_fix {R : Type} {k : Nat} {kx0 : (Int → Option R)} {kr : (Int × Int → Option R)} (Inv : ((List Int) × Int × Int) → Prop) (μ : ((List Int) × Int × Int) → Nat) (G : ((List Int) × Int × Int) → Option R) (h : ∀ v rec, Inv v → (∀ w, Inv w → μ w < μ v → rec w = G w) → s2 k rec kx0 kr v = G v) : ∀ n v, Inv v → μ v < n → l2 k n v kx0 kr = G v := loop_fix (S := fun rec v => s2 k rec kx0 kr v) (fun _ _ => rfl) Inv μ G h
theorem l2_for {R : Type} {k : Nat} {kx0 : (Int → Option R)} {kr : (Int × Int → Option R)} (N : Nat) (Inv : Nat → ((List Int)) → (Int) → Prop) (G : Nat → ((List Int)) → (Int) → Option R) (h : ∀ (i : Nat) (x0 : (List Int)) (x1 : Int) (rec : (List Int) × Int × Int → Option R), i ≤ N → Inv i x0 x1 → (∀ (x0' : (List Int)) (x1' : Int), i < N → Inv (i + 1) x0' x1' → rec (x0', x1', ((i : Int) + 1)) = G (i + 1) x0' x1') → s2 k rec kx0 kr (x0, x1, (i : Int)) = G i x0 x1) : ∀ (n i : Nat) (x0 : (List Int)) (x1 : Int), i ≤ N → Inv i x0 x1 → N - i < n → l2 k n (x0, x1, (i : Int)) kx0 kr = G i x0 x1 := by
  intro n
  induction n with
  | zero => intro i x0 x1 _ _ h0; omega
  | succ n ih =>
    intro i x0 x1 hi hv hn
    exact h i x0 x1 (fun w => l2 k n w kx0 kr) hi hv (fun x0' x1' hlt hv' => ih (i + 1) x0' x1' hlt hv' (by omega))
def f (k : Nat) (a0 : (List Int)) (a1 : Int) : (Option ((Int × Unit) × (Unit))) :=
  (l2 k k (a0, a1, (0 : Int)) (fun o1 => (some ((o1, ()), ()))) (fun (o2, o3) => (some ((o3, ()), ()))))
end laws_heldInt64S

/-! ### loop.example/g00910/laws.szInt64S -/
namespace laws_szInt64S
def f (k : Nat) (a0 : (List Int)) (a1 : Int) : (Option ((Int × Unit) × (Unit))) :=
  (bif (decide ((IntKind.wrap .i64 (a1 - ((a0.length : Nat) : Int))) < (0 : Int))) then (some (((-1 : Int), ()), ())) else (some (((IntKind.wrap .i64 (a1 - ((a0.length : Nat) : Int))), ()), ())))
end laws_szInt64S

/-! ### loop.example/g00910/laws.szPot -/
namespace laws_szPot
def f (k : Nat) (a0 : (Int × ((List Int) × Unit))) (a1 : Int) : (Option ((Int × Unit) × (Unit))) :=
  ((laws_szInt64S.f k a0.2.1 a1).bind fun r1 => (bif (decide (r1.1.1 < (0 : Int))) then (some (((-1 : Int), ()), ())) else (some ((r1.1.1, ()), ()))))
end laws_szPot

/-! ### loop.example/g00910/spec.l01In -/
namespace spec_l01In
def f (k : Nat) (a0 : Int) (a1 : Int) (a2 : Int) : (Option ((Bool × Unit) × (Unit))) :=
  (bif (decide (a0 ≥ a1)) then (some (((decide (a0 ≤ a2)), ()), ())) else (some ((false, ()), ())))
end spec_l01In

/-! ### loop.example/g00910/spec.l13Seats -/
namespace spec_l13Seats
def f (k : Nat) (a0 : Int) : (Option ((Bool × Unit) × (Unit))) :=
  ((spec_l01In.f k a0 (2 : Int) (6 : Int)).bind fun r1 => (some ((r1.1.1, ()), ())))
end spec_l13Seats

/-! ### loop.example/g00910/spec.l01Rises -/
namespace spec_l01Rises
def s2 {R : Type} (k : Nat) (rec : (List Int) × Int × Int → Option R) (kx0 : (Unit → Option R)) (kr : (Bool → Option R)) : (List Int) × Int × Int → Option R := fun (x0, x1, x5) =>
  (bif (decide (x5 < ((x0.length : Nat) : Int))) then (bif ((decide (0 ≤ x5)) && (decide (x5 < ((x0.length : Nat) : Int)))) then ((spec_l01In.f k (x0.getD (Int.toNat x5) (0 : Int)) (0 : Int) (IntKind.wrap .i64 (x1 - (1 : Int)))).bind fun r1 => (bif (!r1.1.1) then (kr false) else (bif (decide (x5 > (0 : Int))) then (bif ((decide (0 ≤ x5)) && (decide (x5 < ((x0.length : Nat) : Int)))) then (bif ((decide (0 ≤ (IntKind.wrap .i64 (x5 - (1 : Int))))) && (decide ((IntKind.wrap .i64 (x5 - (1 : Int))) < ((x0.length : Nat) : Int)))) then (bif (decide ((x0.getD (Int.toNat x5) (0 : Int)) ≤ (x0.getD (Int.toNat (IntKind.wrap .i64 (x5 - (1 : Int)))) (0 : Int)))) then (kr false) else (rec (x0, x1, (IntKind.wrap .i64 (x5 + (1 : Int)))))) else none) else none) else (rec (x0, x1, (IntKind.wrap .i64 (x5 + (1 : Int)))))))) else none) else (kx0 ()))
def l2 {R : Type} (k : Nat) : Nat → (List Int) × Int × Int → (Unit → Option R) → (Bool → Option R) → Option R
  | 0, _, _, _ => none
  | n + 1, v, kx0, kr => s2 k (fun w => l2 k n w kx0 kr) kx0 kr v
theorem l2_fix {R : Type} {k : Nat} {kx0 : (Unit → Option R)} {kr : (Bool → Option R)} (Inv : ((List Int) × Int × Int) → Prop) (μ : ((List Int) × Int × Int) → Nat) (G : ((List Int) × Int × Int) → Option R) (h : ∀ v rec, Inv v → (∀ w, Inv w → μ w < μ v → rec w = G w) → s2 k rec kx0 kr v = G v) : ∀ n v, Inv v → μ v < n → l2 k n v kx0 kr = G v := loop_fix (S := fun rec v => s2 k rec kx0 kr v) (fun _ _ => rfl) Inv μ G h
theorem l2_for {R : Type} {k : Nat} {kx0 : (Unit → Option R)} {kr : (Bool → Option R)} (N : Nat) (Inv : Nat → ((List Int)) → (Int) → Prop) (G : Nat → ((List Int)) → (Int) → Option R) (h : ∀ (i : Nat) (x0 : (List Int)) (x1 : Int) (rec : (List Int) × Int × Int → Option R), i ≤ N → Inv i x0 x1 → (∀ (x0' : (List Int)) (x1' : Int), i < N → Inv (i + 1) x0' x1' → rec (x0', x1', ((i : Int) + 1)) = G (i + 1) x0' x1') → s2 k rec kx0 kr (x0, x1, (i : Int)) = G i x0 x1) : ∀ (n i : Nat) (x0 : (List Int)) (x1 : Int), i ≤ N → Inv i x0 x1 → N - i < n → l2 k n (x0, x1, (i : Int)) kx0 kr = G i x0 x1 := by
  intro n
  induction n with
  | zero => intro i x0 x1 _ _ h0; omega
  | succ n ih =>
    intro i x0 x1 hi hv hn
    exact h i x0 x1 (fun w => l2 k n w kx0 kr) hi hv (fun x0' x1' hlt hv' => ih (i + 1) x0' x1' hlt hv' (by omega))
def f (k : Nat) (a0 : (List Int)) (a1 : Int) : (Option ((Bool × Unit) × (Unit))) :=
  (l2 k k (a0, a1, (0 : Int)) (fun (_ : Unit) => (some ((true, ()), ()))) (fun o2 => (some ((o2, ()), ()))))
end spec_l01Rises

/-! ### loop.example/g00910/spec.l13Winners -/
namespace spec_l13Winners
def f (k : Nat) (a0 : (List Int)) (a1 : Int) : (Option ((Bool × Unit) × (Unit))) :=
  (bif (decide (((a0.length : Nat) : Int) > (0 : Int))) then ((spec_l01Rises.f k a0 a1).bind fun r1 => (some ((r1.1.1, ()), ()))) else (some ((false, ()), ())))
end spec_l13Winners

/-! ### loop.example/g00910/spec.l13Amount -/
namespace spec_l13Amount
def f (k : Nat) (a0 : Int) : (Option ((Bool × Unit) × (Unit))) :=
  ((spec_l01In.f k a0 (0 : Int) (600000 : Int)).bind fun r1 => (some ((r1.1.1, ()), ())))
end spec_l13Amount

/-! ### loop.example/g00910/spec.l13Values -/
namespace spec_l13Values
def s2 {R : Type} (k : Nat) (rec : (List Int) × Int × Int → Option R) (kx0 : ((List Int) × Int → Option R)) (kr : ((List Int) × Int × Bool → Option R)) : (List Int) × Int × Int → Option R := fun (x0, x1, x5) =>
  (bif (decide (x5 < ((x0.length : Nat) : Int))) then (bif ((decide (0 ≤ x5)) && (decide (x5 < ((x0.length : Nat) : Int)))) then (bif (decide ((x0.getD (Int.toNat x5) (0 : Int)) < (-1 : Int))) then (kr (x0, x1, false)) else (rec (x0, x1, (IntKind.wrap .i64 (x5 + (1 : Int)))))) else none) else (kx0 (x0, x1)))
def l2 {R : Type} (k : Nat) : Nat → (List Int) × Int × Int → ((List Int) × Int → Option R) → ((List Int) × Int × Bool → Option R) → Option R
  | 0, _, _, _ => none
  | n + 1, v, kx0, kr => s2 k (fun w => l2 k n w kx0 kr) kx0 kr v
theorem l2_fix {R : Type} {k : Nat} {kx0 : ((List Int) × Int → Option R)} {kr : ((List Int) × Int × Bool → Option R)} (Inv : ((List Int) × Int × Int) → Prop) (μ : ((List Int) × Int × Int) → Nat) (G : ((List Int) × Int × Int) → Option R) (h : ∀ v rec, Inv v → (∀ w, Inv w → μ w < μ v → rec w = G w) → s2 k rec kx0 kr v = G v) : ∀ n v, Inv v → μ v < n → l2 k n v kx0 kr = G v := loop_fix (S := fun rec v => s2 k rec kx0 kr v) (fun _ _ => rfl) Inv μ G h
theorem l2_for {R : Type} {k : Nat} {kx0 : ((List Int) × Int → Option R)} {kr : ((List Int) × Int × Bool → Option R)} (N : Nat) (Inv : Nat → ((List Int)) → (Int) → Prop) (G : Nat → ((List Int)) → (Int) → Option R) (h : ∀ (i : Nat) (x0 : (List Int)) (x1 : Int) (rec : (List Int) × Int × Int → Option R), i ≤ N → Inv i x0 x1 → (∀ (x0' : (List Int)) (x1' : Int), i < N → Inv (i + 1) x0' x1' → rec (x0', x1', ((i : Int) + 1)) = G (i + 1) x0' x1') → s2 k rec kx0 kr (x0, x1, (i : Int)) = G i x0 x1) : ∀ (n i : Nat) (x0 : (List Int)) (x1 : Int), i ≤ N → Inv i x0 x1 → N - i < n → l2 k n (x0, x1, (i : Int)) kx0 kr = G i x0 x1 := by
  intro n
  induction n with
  | zero => intro i x0 x1 _ _ h0; omega
  | succ n ih =>
    intro i x0 x1 hi hv hn
    exact h i x0 x1 (fun w => l2 k n w kx0 kr) hi hv (fun x0' x1' hlt hv' => ih (i + 1) x0' x1' hlt hv' (by omega))
def f (k : Nat) (a0 : (List Int)) (a1 : Int) : (Option ((Bool × Unit) × (Unit))) :=
  (l2 k k (a0, a1, (0 : Int)) (fun (o1, o2) => (some (((((o1.length : Nat) : Int) == o2), ()), ()))) (fun (o3, o4, o5) => (some ((o5, ()), ()))))
end spec_l13Values

/-! ### loop.example/g00910/spec.l13Pots -/
namespace spec_l13Pots
def s5 {R : Type} (k : Nat) (rec : (List (Int × ((List Int) × Unit))) × (List Int) × (List Int) × Int × Int × Int → Option R) (kx0 : ((List Int) × (List Int) × Int × Int → Option R)) (kr : ((List Int) × (List Int) × Int × Int × Int → Option R)) : (List (Int × ((List Int) × Unit))) × (List Int) × (List Int) × Int × Int × Int → Option R := fun (x0, x1, x2, x3, x9, x10) =>
  (bif (decide (x10 < ((x0.length : Nat) : Int))) then (bif ((decide (0 ≤ x10)) && (decide (x10 < ((x0.length : Nat) : Int)))) then ((spec_l13Winners.f k ((x0.getD (Int.toNat x10) ((0 : Int), (([] : List Int), ()))).2.1) x9).bind fun r2 => (bif (!r2.1.1) then (kr (x1, x2, x3, (1 : Int), x9)) else (bif ((decide (0 ≤ x10)) && (decide (x10 < ((x0.length : Nat) : Int)))) then ((spec_l13Amount.f k ((x0.getD (Int.toNat x10) ((0 : Int), (([] : List Int), ()))).1)).bind fun r3 => (bif (!r3.1.1) then (kr (x1, x2, x3, (1 : Int), x9)) else (rec (x0, x1, x2, x3, x9, (IntKind.wrap .i64 (x10 + (1 : Int))))))) else none))) else none) else (kx0 (x1, x2, x3, x9)))
def l5 {R : Type} (k : Nat) : Nat → (List (Int × ((List Int) × Unit))) × (List Int) × (List Int) × Int × Int × Int → ((List Int) × (List Int) × Int × Int → Option R) → ((List Int) × (List Int) × Int × Int × Int → Option R) → Option R
  | 0, _, _, _ => none
  | n + 1, v, kx0, kr => s5 k (fun w => l5 k n w kx0 kr) kx0 kr v
theorem l5_fix {R : Type} {k : Nat} {kx0 : ((List Int) × (List Int) × Int × Int → Option R)} {kr : ((List Int) × (List Int) × Int × Int × Int → Option R)} (Inv : ((List (Int × ((List Int) × Unit))) × (List Int) × (List Int) × Int × Int × Int) → Prop) (μ : ((List (Int × ((List Int) × Unit))) × (List Int) × (List Int) × Int × Int × Int) → Nat) (G : ((List (Int × ((List Int) × Unit))) × (List Int) × (List Int) × Int × Int × Int) → Option R) (h : ∀ v rec, Inv v → (∀ w, Inv w → μ w < μ v → rec w = G w) → s5 k rec kx0 kr v = G v) : ∀ n v, Inv v → μ v < n → l5 k n v kx0 kr = G v := loop_fix (S := fun rec v => s5 k rec kx0 kr v) (fun _ _ => rfl) Inv μ G h
theorem l5_for {R : Type} {k : Nat} {kx0 : ((List Int) × (List Int) × Int × Int → Option R)} {kr : ((List Int) × (List Int) × Int × Int × Int → Option R)} (N : Nat) (Inv : Nat → ((List (Int × ((List Int) × Unit)))) → ((List Int)) → ((List Int)) → (Int) → (Int) → Prop) (G : Nat → ((List (Int × ((List Int) × Unit)))) → ((List Int)) → ((List Int)) → (Int) → (Int) → Option R) (h : ∀ (i : Nat) (x0 : (List (Int × ((List Int) × Unit)))) (x1 : (List Int)) (x2 : (List Int)) (x3 : Int) (x9 : Int) (rec : (List (Int × ((List Int) × Unit))) × (List Int) × (List Int) × Int × Int × Int → Option R), i ≤ N → Inv i x0 x1 x2 x3 x9 → (∀ (x0' : (List (Int × ((List Int) × Unit)))) (x1' : (List Int)) (x2' : (List Int)) (x3' : Int) (x9' : Int), i < N → Inv (i + 1) x0' x1' x2' x3' x9' → rec (x0', x1', x2', x3', x9', ((i : Int) + 1)) = G (i + 1) x0' x1' x2' x3' x9') → s5 k rec kx0 kr (x0, x1, x2, x3, x9, (i : Int)) = G i x0 x1 x2 x3 x9) : ∀ (n i : Nat) (x0 : (List (Int × ((List Int) × Unit)))) (x1 : (List Int)) (x2 : (List Int)) (x3 : Int) (x9 : Int), i ≤ N → Inv i x0 x1 x2 x3 x9 → N - i < n → l5 k n (x0, x1, x2, x3, x9, (i : Int)) kx0 kr = G i x0 x1 x2 x3 x9 := by
  intro n
  induction n with
  | zero => intro i x0 x1 x2 x3 x9 _ _ h0; omega
  | succ n ih =>
    intro i x0 x1 x2 x3 x9 hi hv hn
    exact h i x0 x1 x2 x3 x9 (fun w => l5 k n w kx0 kr) hi hv (fun x0' x1' x2' x3' x9' hlt hv' => ih (i + 1) x0' x1' x2' x3' x9' hlt hv' (by omega))
def f (k : Nat) (a0 : (List (Int × ((List Int) × Unit)))) (a1 : (List Int)) (a2 : (List Int)) (a3 : Int) : (Option ((Int × Unit) × (Unit))) :=
  ((spec_l13Seats.f k ((a1.length : Nat) : Int)).bind fun r1 => (bif (!r1.1.1) then (some (((2 : Int), ()), ())) else (l5 k k (a0, a1, a2, a3, ((a1.length : Nat) : Int), (0 : Int)) (fun (o4, o5, o6, o7) => ((spec_l13Values.f k o4 o7).bind fun r8 => (bif (!r8.1.1) then (some (((2 : Int), ()), ())) else ((spec_l13Values.f k o5 o7).bind fun r9 => (bif (!r9.1.1) then (some (((2 : Int), ()), ())) else ((spec_l01In.f k o6 (0 : Int) (IntKind.wrap .i64 (o7 - (1 : Int)))).bind fun r10 => (bif (!r10.1.1) then (some (((2 : Int), ()), ())) else (some (((0 : Int), ()), ()))))))))) (fun (o11, o12, o13, o14, o15) => (some ((o14, ()), ()))))))
end spec_l13Pots

/-! ### loop.example/g00910/spec.l01Has -/
namespace spec_l01Has
def s2 {R : Type} (k : Nat) (rec : (List Int) × Int × Int → Option R) (kx0 : (Unit → Option R)) (kr : (Bool → Option R)) : (List Int) × Int × Int → Option R := fun (x0, x1, x5) =>
  (bif (decide (x5 < ((x0.length : Nat) : Int))) then (bif ((decide (0 ≤ x5)) && (decide (x5 < ((x0.length : Nat) : Int)))) then (bif ((x0.getD (Int.toNat x5) (0 : Int)) == x1) then (kr true) else (rec (x0, x1, (IntKind.wrap .i64 (x5 + (1 : Int)))))) else none) else (kx0 ()))
def l2 {R : Type} (k : Nat) : Nat → (List Int) × Int × Int → (Unit → Option R) → (Bool → Option R) → Option R
  | 0, _, _, _ => none
  | n + 1, v, kx0, kr => s2 k (fun w => l2 k n w kx0 kr) kx0 kr v
theorem l2_fix {R : Type} {k : Nat} {kx0 : (Unit → Option R)} {kr : (Bool → Option R)} (Inv : ((List Int) × Int × Int) → Prop) (μ : ((List Int) × Int × Int) → Nat) (G : ((List Int) × Int × Int) → Option R) (h : ∀ v rec, Inv v → (∀ w, Inv w → μ w < μ v → rec w = G w) → s2 k rec kx0 kr v = G v) : ∀ n v, Inv v → μ v < n → l2 k n v kx0 kr = G v := loop_fix (S := fun rec v => s2 k rec kx0 kr v) (fun _ _ => rfl) Inv μ G h
theorem l2_for {R : Type} {k : Nat} {kx0 : (Unit → Option R)} {kr : (Bool → Option R)} (N : Nat) (Inv : Nat → ((List Int)) → (Int) → Prop) (G : Nat → ((List Int)) → (Int) → Option R) (h : ∀ (i : Nat) (x0 : (List Int)) (x1 : Int) (rec : (List Int) × Int × Int → Option R), i ≤ N → Inv i x0 x1 → (∀ (x0' : (List Int)) (x1' : Int), i < N → Inv (i + 1) x0' x1' → rec (x0', x1', ((i : Int) + 1)) = G (i + 1) x0' x1') → s2 k rec kx0 kr (x0, x1, (i : Int)) = G i x0 x1) : ∀ (n i : Nat) (x0 : (List Int)) (x1 : Int), i ≤ N → Inv i x0 x1 → N - i < n → l2 k n (x0, x1, (i : Int)) kx0 kr = G i x0 x1 := by
  intro n
  induction n with
  | zero => intro i x0 x1 _ _ h0; omega
  | succ n ih =>
    intro i x0 x1 hi hv hn
    exact h i x0 x1 (fun w => l2 k n w kx0 kr) hi hv (fun x0' x1' hlt hv' => ih (i + 1) x0' x1' hlt hv' (by omega))
def f (k : Nat) (a0 : (List Int)) (a1 : Int) : (Option ((Bool × Unit) × (Unit))) :=
  (l2 k k (a0, a1, (0 : Int)) (fun (_ : Unit) => (some ((false, ()), ()))) (fun o1 => (some ((o1, ()), ()))))
end spec_l01Has

/-! ### loop.example/g00910/spec.l13Split -/
namespace spec_l13Split
def s5 {R : Type} (k : Nat) (rec : Int × (List Int) × Int × Int × Int × Int × Int × (List Int) → Option R) (kx0 : ((List Int) → Option R)) : Int × (List Int) × Int × Int × Int × Int × Int × (List Int) → Option R := fun (x0, x1, x2, x3, x10, x11, x12, y0) =>
  (bif (decide (x12 < x2)) then (bif (!(decide (x2 = 0))) then ((spec_l01Has.f k x1 (Int.tmod (IntKind.wrap .i64 (x3 + x12)) x2)).bind fun r1 => (bif r1.1.1 then (bif (!(decide (x10 = 0))) then (bif ((decide (0 ≤ (Int.tmod (IntKind.wrap .i64 (x3 + x12)) x2))) && (decide ((Int.tmod (IntKind.wrap .i64 (x3 + x12)) x2) < ((y0.length : Nat) : Int)))) then (bif (decide ((Int.toNat (Int.tmod (IntKind.wrap .i64 (x3 + x12)) x2)) < y0.length)) then (bif (decide (x11 > (0 : Int))) then (bif ((decide (0 ≤ (Int.tmod (IntKind.wrap .i64 (x3 + x12)) x2))) && (decide ((Int.tmod (IntKind.wrap .i64 (x3 + x12)) x2) < (((y0.set (Int.toNat (Int.tmod (IntKind.wrap .i64 (x3 + x12)) x2)) (IntKind.wrap .i64 (Int.tdiv x0 x10))).length : Nat) : Int)))) then (bif (decide ((Int.toNat (Int.tmod (IntKind.wrap .i64 (x3 + x12)) x2)) < (y0.set (Int.toNat (Int.tmod (IntKind.wrap .i64 (x3 + x12)) x2)) (IntKind.wrap .i64 (Int.tdiv x0 x10))).length)) then (bif ((decide (0 ≤ (Int.tmod (IntKind.wrap .i64 (x3 + x12)) x2))) && (decide ((Int.tmod (IntKind.wrap .i64 (x3 + x12)) x2) < (((y0.set (Int.toNat (Int.tmod (IntKind.wrap .i64 (x3 + x12)) x2)) (IntKind.wrap .i64 (Int.tdiv x0 x10))).length : Nat) : Int)))) then (bif (decide ((Int.toNat (Int.tmod (IntKind.wrap .i64 (x3 + x12)) x2)) < (y0.set (Int.toNat (Int.tmod (IntKind.wrap .i64 (x3 + x12)) x2)) (IntKind.wrap .i64 (Int.tdiv x0 x10))).length)) then (rec (x0, x1, x2, x3, x10, (IntKind.wrap .i64 (x11 - (1 : Int))), (IntKind.wrap .i64 (x12 + (1 : Int))), ((y0.set (Int.toNat (Int.tmod (IntKind.wrap .i64 (x3 + x12)) x2)) (IntKind.wrap .i64 (Int.tdiv x0 x10))).set (Int.toNat (Int.tmod (IntKind.wrap .i64 (x3 + x12)) x2)) (IntKind.wrap .i64 (((y0.set (Int.toNat (Int.tmod (IntKind.wrap .i64 (x3 + x12)) x2)) (IntKind.wrap .i64 (Int.tdiv x0 x10))).getD (Int.toNat (Int.tmod (IntKind.wrap .i64 (x3 + x12)) x2)) (0 : Int)) + (1 : Int)))))) else none) else none) else none) else none) else (rec (x0, x1, x2, x3, x10, x11, (IntKind.wrap .i64 (x12 + (1 : Int))), (y0.set (Int.toNat (Int.tmod (IntKind.wrap .i64 (x3 + x12)) x2)) (IntKind.wrap .i64 (Int.tdiv x0 x10)))))) else none) else none) else none) else (rec (x0, x1, x2, x3, x10, x11, (IntKind.wrap .i64 (x12 + (1 : Int))), y0)))) else none) else (kx0 y0))
def l5 {R : Type} (k : Nat) : Nat → Int × (List Int) × Int × Int × Int × Int × Int × (List Int) → ((List Int) → Option R) → Option R
  | 0, _, _ => none
  | n + 1, v, kx0 => s5 k (fun w => l5 k n w kx0) kx0 v
theorem l5_fix {R : Type} {k : Nat} {kx0 : ((List Int) → Option R)} (Inv : (Int × (List Int) × Int × Int × Int × Int × Int × (List Int)) → Prop) (μ : (Int × (List Int) × Int × Int × Int × Int × Int × (List Int)) → Nat) (G : (Int × (List Int) × Int × Int × Int × Int × Int × (List Int)) → Option R) (h : ∀ v rec, Inv v → (∀ w, Inv w → μ w < μ v → rec w = G w) → s5 k rec kx0 v = G v) : ∀ n v, Inv v → μ v < n → l5 k n v kx0 = G v := loop_fix (S := fun rec v => s5 k rec kx0 v) (fun _ _ => rfl) Inv μ G h
theorem l5_for {R : Type} {k : Nat} {kx0 : ((List Int) → Option R)} (N : Nat) (Inv : Nat → (Int) → ((List Int)) → (Int) → (Int) → (Int) → (Int) → ((List Int)) → Prop) (G : Nat → (Int) → ((List Int)) → (Int) → (Int) → (Int) → (Int) → ((List Int)) → Option R) (h : ∀ (i : Nat) (x0 : Int) (x1 : (List Int)) (x2 : Int) (x3 : Int) (x10 : Int) (x11 : Int) (y0 : (List Int)) (rec : Int × (List Int) × Int × Int × Int × Int × Int × (List Int) → Option R), i ≤ N → Inv i x0 x1 x2 x3 x10 x11 y0 → (∀ (x0' : Int) (x1' : (List Int)) (x2' : Int) (x3' : Int) (x10' : Int) (x11' : Int) (y0' : (List Int)), i < N → Inv (i + 1) x0' x1' x2' x3' x10' x11' y0' → rec (x0', x1', x2', x3', x10', x11', ((i : Int) + 1), y0') = G (i + 1) x0' x1' x2' x3' x10' x11' y0') → s5 k rec kx0 (x0, x1, x2, x3, x10, x11, (i : Int), y0) = G i x0 x1 x2 x3 x10 x11 y0) : ∀ (n i : Nat) (x0 : Int) (x1 : (List Int)) (x2 : Int) (x3 : Int) (x10 : Int) (x11 : Int) (y0 : (List Int)), i ≤ N → Inv i x0 x1 x2 x3 x10 x11 y0 → N - i < n → l5 k n (x0, x1, x2, x3, x10, x11, (i : Int), y0) kx0 = G i x0 x1 x2 x3 x10 x11 y0 := by
  intro n
  induction n with
  | zero => intro i x0 x1 x2 x3 x10 x11 y0 _ _ h0; omega
  | succ n ih =>
    intro i x0 x1 x2 x3 x10 x11 y0 hi hv hn
    exact h i x0 x1 x2 x3 x10 x11 y0 (fun w => l5 k n w kx0) hi hv (fun x0' x1' x2' x3' x10' x11' y0' hlt hv' => ih (i + 1) x0' x1' x2' x3' x10' x11' y0' hlt hv' (by omega))
def f (k : Nat) (a0 : Int) (a1 : (List Int)) (a2 : Int) (a3 : Int) : (Option (((List Int) × Unit) × (Unit))) :=
  (bif ((decide (0 ≤ a2)) && ((decide (a2 ≤ a2)) && (decide (a2 * ((8 : Nat) : Int) ≤ (AM.maxBytes : Int))))) then (bif (!(decide (((a1.length : Nat) : Int) = 0))) then (l5 k k (a0, a1, a2, a3, ((a1.length : Nat) : Int), (Int.tmod a0 ((a1.length : Nat) : Int)), (0 : Int), (List.replicate (Int.toNat a2) (0 : Int))) (fun o2 => (some ((o2, ()), ())))) else none) else none)
end spec_l13Split

/-! ### loop.example/g00910/spec.l13Best -/
namespace spec_l13Best
def s4 {R : Type} (k : Nat) (rec : (List Int) × (List Int) × Bool × Int × Int × (List Int) → Option R) (kx0 : ((List Int) → Option R)) : (List Int) × (List Int) × Bool × Int × Int × (List Int) → Option R := fun (x0, x1, x2, x8, x9, y0) =>
  (bif (decide (x9 < ((x0.length : Nat) : Int))) then (bif ((decide (0 ≤ x9)) && (decide (x9 < ((x0.length : Nat) : Int)))) then (bif ((decide (0 ≤ (x0.getD (Int.toNat x9) (0 : Int)))) && (decide ((x0.getD (Int.toNat x9) (0 : Int)) < ((x1.length : Nat) : Int)))) then (bif (decide ((x1.getD (Int.toNat (x0.getD (Int.toNat x9) (0 : Int))) (0 : Int)) < (0 : Int))) then (rec (x0, x1, x2, x8, (IntKind.wrap .i64 (x9 + (1 : Int))), y0)) else (bif (decide (x8 < (0 : Int))) then (bif ((decide (0 ≤ x9)) && (decide (x9 < ((x0.length : Nat) : Int)))) then (rec (x0, x1, x2, (x1.getD (Int.toNat (x0.getD (Int.toNat x9) (0 : Int))) (0 : Int)), (IntKind.wrap .i64 (x9 + (1 : Int))), ([(x0.getD (Int.toNat x9) (0 : Int))] : List Int))) else none) else (bif x2 then (bif (decide ((x1.getD (Int.toNat (x0.getD (Int.toNat x9) (0 : Int))) (0 : Int)) > x8)) then (bif ((decide (0 ≤ x9)) && (decide (x9 < ((x0.length : Nat) : Int)))) then (rec (x0, x1, x2, (x1.getD (Int.toNat (x0.getD (Int.toNat x9) (0 : Int))) (0 : Int)), (IntKind.wrap .i64 (x9 + (1 : Int))), ([(x0.getD (Int.toNat x9) (0 : Int))] : List Int))) else none) else (bif (!x2) then (bif (decide ((x1.getD (Int.toNat (x0.getD (Int.toNat x9) (0 : Int))) (0 : Int)) < x8)) then (bif ((decide (0 ≤ x9)) && (decide (x9 < ((x0.length : Nat) : Int)))) then (rec (x0, x1, x2, (x1.getD (Int.toNat (x0.getD (Int.toNat x9) (0 : Int))) (0 : Int)), (IntKind.wrap .i64 (x9 + (1 : Int))), ([(x0.getD (Int.toNat x9) (0 : Int))] : List Int))) else none) else (bif ((x1.getD (Int.toNat (x0.getD (Int.toNat x9) (0 : Int))) (0 : Int)) == x8) then (bif ((decide (0 ≤ x9)) && (decide (x9 < ((x0.length : Nat) : Int)))) then (bif (decide ((y0.length + ([(x0.getD (Int.toNat x9) (0 : Int))] : List Int).length) * 8 ≤ AM.maxBytes)) then (rec (x0, x1, x2, x8, (IntKind.wrap .i64 (x9 + (1 : Int))), (y0 ++ ([(x0.getD (Int.toNat x9) (0 : Int))] : List Int)))) else none) else none) else (rec (x0, x1, x2, x8, (IntKind.wrap .i64 (x9 + (1 : Int))), y0)))) else (bif ((x1.getD (Int.toNat (x0.getD (Int.toNat x9) (0 : Int))) (0 : Int)) == x8) then (bif ((decide (0 ≤ x9)) && (decide (x9 < ((x0.length : Nat) : Int)))) then (bif (decide ((y0.length + ([(x0.getD (Int.toNat x9) (0 : Int))] : List Int).length) * 8 ≤ AM.maxBytes)) then (rec (x0, x1, x2, x8, (IntKind.wrap .i64 (x9 + (1 : Int))), (y0 ++ ([(x0.getD (Int.toNat x9) (0 : Int))] : List Int)))) else none) else none) else (rec (x0, x1, x2, x8, (IntKind.wrap .i64 (x9 + (1 : Int))), y0))))) else (bif (!x2) then (bif (decide ((x1.getD (Int.toNat (x0.getD (Int.toNat x9) (0 : Int))) (0 : Int)) < x8)) then (bif ((decide (0 ≤ x9)) && (decide (x9 < ((x0.length : Nat) : Int)))) then (rec (x0, x1, x2, (x1.getD (Int.toNat (x0.getD (Int.toNat x9) (0 : Int))) (0 : Int)), (IntKind.wrap .i64 (x9 + (1 : Int))), ([(x0.getD (Int.toNat x9) (0 : Int))] : List Int))) else none) else (bif ((x1.getD (Int.toNat (x0.getD (Int.toNat x9) (0 : Int))) (0 : Int)) == x8) then (bif ((decide (0 ≤ x9)) && (decide (x9 < ((x0.length : Nat) : Int)))) then (bif (decide ((y0.length + ([(x0.getD (Int.toNat x9) (0 : Int))] : List Int).length) * 8 ≤ AM.maxBytes)) then (rec (x0, x1, x2, x8, (IntKind.wrap .i64 (x9 + (1 : Int))), (y0 ++ ([(x0.getD (Int.toNat x9) (0 : Int))] : List Int)))) else none) else none) else (rec (x0, x1, x2, x8, (IntKind.wrap .i64 (x9 + (1 : Int))), y0)))) else (bif ((x1.getD (Int.toNat (x0.getD (Int.toNat x9) (0 : Int))) (0 : Int)) == x8) then (bif ((decide (0 ≤ x9)) && (decide (x9 < ((x0.length : Nat) : Int)))) then (bif (decide ((y0.length + ([(x0.getD (Int.toNat x9) (0 : Int))] : List Int).length) * 8 ≤ AM.maxBytes)) then (rec (x0, x1, x2, x8, (IntKind.wrap .i64 (x9 + (1 : Int))), (y0 ++ ([(x0.getD (Int.toNat x9) (0 : Int))] : List Int)))) else none) else none) else (rec (x0, x1, x2, x8, (IntKind.wrap .i64 (x9 + (1 : Int))), y0))))))) else none) else none) else (kx0 y0))
def l4 {R : Type} (k : Nat) : Nat → (List Int) × (List Int) × Bool × Int × Int × (List Int) → ((List Int) → Option R) → Option R
  | 0, _, _ => none
  | n + 1, v, kx0 => s4 k (fun w => l4 k n w kx0) kx0 v
theorem l4_fix {R : Type} {k : Nat} {kx0 : ((List Int) → Option R)} (Inv : ((List Int) × (List Int) × Bool × Int × Int × (List Int)) → Prop) (μ : ((List Int) × (List Int) × Bool × Int × Int × (List Int)) → Nat) (G : ((List Int) × (List Int) × Bool × Int × Int × (List Int)) → Option R) (h : ∀ v rec, Inv v → (∀ w, Inv w → μ w < μ v → rec w = G w) → s4 k rec kx0 v = G v) : ∀ n v, Inv v → μ v < n → l4 k n v kx0 = G v := loop_fix (S := fun rec v => s4 k rec kx0 v) (fun _ _ => rfl) Inv μ G h
theorem l4_for {R : Type} {k : Nat} {kx0 : ((List Int) → Option R)} (N : Nat) (Inv : Nat → ((List Int)) → ((List Int)) → (Bool) → (Int) → ((List Int)) → Prop) (G : Nat → ((List Int)) → ((List Int)) → (Bool) → (Int) → ((List Int)) → Option R) (h : ∀ (i : Nat) (x0 : (List Int)) (x1 : (List Int)) (x2 : Bool) (x8 : Int) (y0 : (List Int)) (rec : (List Int) × (List Int) × Bool × Int × Int × (List Int) → Option R), i ≤ N → Inv i x0 x1 x2 x8 y0 → (∀ (x0' : (List Int)) (x1' : (List Int)) (x2' : Bool) (x8' : Int) (y0' : (List Int)), i < N → Inv (i + 1) x0' x1' x2' x8' y0' → rec (x0', x1', x2', x8', ((i : Int) + 1), y0') = G (i + 1) x0' x1' x2' x8' y0') → s4 k rec kx0 (x0, x1, x2, x8, (i : Int), y0) = G i x0 x1 x2 x8 y0) : ∀ (n i : Nat) (x0 : (List Int)) (x1 : (List Int)) (x2 : Bool) (x8 : Int) (y0 : (List Int)), i ≤ N → Inv i x0 x1 x2 x8 y0 → N - i < n → l4 k n (x0, x1, x2, x8, (i : Int), y0) kx0 = G i x0 x1 x2 x8 y0 := by
  intro n
  induction n with
  | zero => intro i x0 x1 x2 x8 y0 _ _ h0; omega
  | succ n ih =>
    intro i x0 x1 x2 x8 y0 hi hv hn
    exact h i x0 x1 x2 x8 y0 (fun w => l4 k n w kx0) hi hv (fun x0' x1' x2' x8' y0' hlt hv' => ih (i + 1) x0' x1' x2' x8' y0' hlt hv' (by omega))
def f (k : Nat) (a0 : (List Int)) (a1 : (List Int)) (a2 : Bool) : (Option (((List Int) × Unit) × (Unit))) :=
  (l4 k k (a0, a1, a2, (-1 : Int), (0 : Int), ([] : List Int)) (fun o1 => (some ((o1, ()), ()))))
end spec_l13Best

/-! ### loop.example/g00910/spec.l13Add -/
namespace spec_l13Add
def s3 {R : Type} (k : Nat) (rec : (List Int) × (List Int) × Int × (List Int) → Option R) (kx0 : ((List Int) → Option R)) : (List Int) × (List Int) × Int × (List Int) → Option R := fun (x0, x1, x6, y0) =>
  (bif (decide (x6 < ((x0.length : Nat) : Int))) then (bif ((decide (0 ≤ x6)) && (decide (x6 < ((x0.length : Nat) : Int)))) then (bif ((decide (0 ≤ x6)) && (decide (x6 < ((x1.length : Nat) : Int)))) then (bif (decide ((y0.length + ([(IntKind.wrap .i64 ((x0.getD (Int.toNat x6) (0 : Int)) + (x1.getD (Int.toNat x6) (0 : Int))))] : List Int).length) * 8 ≤ AM.maxBytes)) then (rec (x0, x1, (IntKind.wrap .i64 (x6 + (1 : Int))), (y0 ++ ([(IntKind.wrap .i64 ((x0.getD (Int.toNat x6) (0 : Int)) + (x1.getD (Int.toNat x6) (0 : Int))))] : List Int)))) else none) else none) else none) else (kx0 y0))
def l3 {R : Type} (k : Nat) : Nat → (List Int) × (List Int) × Int × (List Int) → ((List Int) → Option R) → Option R
  | 0, _, _ => none
  | n + 1, v, kx0 => s3 k (fun w => l3 k n w kx0) kx0 v
theorem l3_fix {R : Type} {k : Nat} {kx0 : ((List Int) → Option R)} (Inv : ((List Int) × (List Int) × Int × (List Int)) → Prop) (μ : ((List Int) × (List Int) × Int × (List Int)) → Nat) (G : ((List Int) × (List Int) × Int × (List Int)) → Option R) (h : ∀ v rec, Inv v → (∀ w, Inv w → μ w < μ v → rec w = G w) → s3 k rec kx0 v = G v) : ∀ n v, Inv v → μ v < n → l3 k n v kx0 = G v := loop_fix (S := fun rec v => s3 k rec kx0 v) (fun _ _ => rfl) Inv μ G h
theorem l3_for {R : Type} {k : Nat} {kx0 : ((List Int) → Option R)} (N : Nat) (Inv : Nat → ((List Int)) → ((List Int)) → ((List Int)) → Prop) (G : Nat → ((List Int)) → ((List Int)) → ((List Int)) → Option R) (h : ∀ (i : Nat) (x0 : (List Int)) (x1 : (List Int)) (y0 : (List Int)) (rec : (List Int) × (List Int) × Int × (List Int) → Option R), i ≤ N → Inv i x0 x1 y0 → (∀ (x0' : (List Int)) (x1' : (List Int)) (y0' : (List Int)), i < N → Inv (i + 1) x0' x1' y0' → rec (x0', x1', ((i : Int) + 1), y0') = G (i + 1) x0' x1' y0') → s3 k rec kx0 (x0, x1, (i : Int), y0) = G i x0 x1 y0) : ∀ (n i : Nat) (x0 : (List Int)) (x1 : (List Int)) (y0 : (List Int)), i ≤ N → Inv i x0 x1 y0 → N - i < n → l3 k n (x0, x1, (i : Int), y0) kx0 = G i x0 x1 y0 := by
  intro n
  induction n with
  | zero => intro i x0 x1 y0 _ _ h0; omega
  | succ n ih =>
    intro i x0 x1 y0 hi hv hn
    exact h i x0 x1 y0 (fun w => l3 k n w kx0) hi hv (fun x0' x1' y0' hlt hv' => ih (i + 1) x0' x1' y0' hlt hv' (by omega))
def f (k : Nat) (a0 : (List Int)) (a1 : (List Int)) : (Option (((List Int) × Unit) × (Unit))) :=
  (l3 k k (a0, a1, (0 : Int), ([] : List Int)) (fun o1 => (some ((o1, ()), ()))))
end spec_l13Add

/-! ### loop.example/g00910/spec.l13Award -/
namespace spec_l13Award
def f (k : Nat) (a0 : (Int × ((List Int) × Unit))) (a1 : (List Int)) (a2 : (List Int)) (a3 : Int) : (Option (((List Int) × Unit) × (Unit))) :=
  ((spec_l13Best.f k a0.2.1 a1 true).bind fun r1 => ((spec_l13Best.f k a0.2.1 a2 false).bind fun r2 => (bif (decide (((r1.1.1.length : Nat) : Int) > (0 : Int))) then (bif (decide (((r2.1.1.length : Nat) : Int) > (0 : Int))) then (bif (!(decide ((2 : Int) = 0))) then ((spec_l13Split.f k (IntKind.wrap .i64 (a0.1 - (IntKind.wrap .i64 (Int.tdiv a0.1 (2 : Int))))) r1.1.1 ((a1.length : Nat) : Int) a3).bind fun r3 => ((spec_l13Split.f k (IntKind.wrap .i64 (Int.tdiv a0.1 (2 : Int))) r2.1.1 ((a1.length : Nat) : Int) a3).bind fun r4 => ((spec_l13Add.f k r3.1.1 r4.1.1).bind fun r5 => (some ((r5.1.1, ()), ()))))) else none) else (bif (decide (((r1.1.1.length : Nat) : Int) > (0 : Int))) then ((spec_l13Split.f k a0.1 r1.1.1 ((a1.length : Nat) : Int) a3).bind fun r6 => (some ((r6.1.1, ()), ()))) else (bif (decide (((r2.1.1.length : Nat) : Int) > (0 : Int))) then ((spec_l13Split.f k a0.1 r2.1.1 ((a1.length : Nat) : Int) a3).bind fun r7 => (some ((r7.1.1, ()), ()))) else ((spec_l13Split.f k a0.1 a0.2.1 ((a1.length : Nat) : Int) a3).bind fun r8 => (some ((r8.1.1, ()), ())))))) else (bif (decide (((r1.1.1.length : Nat) : Int) > (0 : Int))) then ((spec_l13Split.f k a0.1 r1.1.1 ((a1.length : Nat) : Int) a3).bind fun r9 => (some ((r9.1.1, ()), ()))) else (bif (decide (((r2.1.1.length : Nat) : Int) > (0 : Int))) then ((spec_l13Split.f k a0.1 r2.1.1 ((a1.length : Nat) : Int) a3).bind fun r10 => (some ((r10.1.1, ()), ()))) else ((spec_l13Split.f k a0.1 a0.2.1 ((a1.length : Nat) : Int) a3).bind fun r11 => (some ((r11.1.1, ()), ()))))))))
end spec_l13Award

/-! ### loop.example/g00910/spec.AwardPot -/
namespace spec_AwardPot
def f (k : Nat) (a0 : (Int × ((List Int) × Unit))) (a1 : (List Int)) (a2 : (List Int)) (a3 : Int) : (Option (((List Int) × Int × Unit) × (Unit))) :=
  ((spec_l13Pots.f k ([(a0.1, (a0.2.1, ()))] : List (Int × ((List Int) × Unit))) a1 a2 a3).bind fun r1 => (bif (r1.1.1 != (0 : Int)) then (some ((([] : List Int), (r1.1.1, ())), ())) else ((spec_l13Award.f k (a0.1, (a0.2.1, ())) a1 a2 a3).bind fun r2 => (some ((r2.1.1, ((0 : Int), ())), ())))))
end spec_AwardPot

/-! ### loop.example/g00910/laws.toPot -/
namespace laws_toPot
def f (k : Nat) (a0 : (Int × ((List Int) × Unit))) : (Option (((Int × ((List Int) × Unit)) × Unit) × (Unit))) :=
  ((laws_toInt64S.f k a0.2.1).bind fun r1 => (some (((a0.1, (r1.1.1, ())), ()), ())))
end laws_toPot

/-! ### loop.example/g00910/impl.within -/
namespace impl_within
def f (k : Nat) (a0 : Int) (a1 : Int) (a2 : Int) : (Option ((Bool × Unit) × (Unit))) :=
  (bif (decide (a0 ≥ a1)) then (some (((decide (a0 ≤ a2)), ()), ())) else (some ((false, ()), ())))
end impl_within

/-! ### loop.example/g00910/impl.allWithin -/
namespace impl_allWithin
def s2 {R : Type} (k : Nat) (rec : Int × Int × (List Int) × Int × Int → Option R) (kx0 : (Unit → Option R)) (kr : (Bool → Option R)) : Int × Int × (List Int) × Int × Int → Option R := fun (x1, x2, x9, x10, x11) =>
  (bif (decide (x11 < x10)) then (bif ((decide (0 ≤ x11)) && (decide (x11 < ((x9.length : Nat) : Int)))) then ((impl_within.f k (x9.getD (Int.toNat x11) (0 : Int)) x1 x2).bind fun r1 => (bif (!r1.1.1) then (kr false) else (rec (x1, x2, x9, x10, (IntKind.wrap .i64 (x11 + (1 : Int))))))) else none) else (kx0 ()))
def l2 {R : Type} (k : Nat) : Nat → Int × Int × (List Int) × Int × Int → (Unit → Option R) → (Bool → Option R) → Option R
  | 0, _, _, _ => none
  | n + 1, v, kx0, kr => s2 k (fun w => l2 k n w kx0 kr) kx0 kr v
theorem l2_fix {R : Type} {k : Nat} {kx0 : (Unit → Option R)} {kr : (Bool → Option R)} (Inv : (Int × Int × (List Int) × Int × Int) → Prop) (μ : (Int × Int × (List Int) × Int × Int) → Nat) (G : (Int × Int × (List Int) × Int × Int) → Option R) (h : ∀ v rec, Inv v → (∀ w, Inv w → μ w < μ v → rec w = G w) → s2 k rec kx0 kr v = G v) : ∀ n v, Inv v → μ v < n → l2 k n v kx0 kr = G v := loop_fix (S := fun rec v => s2 k rec kx0 kr v) (fun _ _ => rfl) Inv μ G h
theorem l2_for {R : Type} {k : Nat} {kx0 : (Unit → Option R)} {kr : (Bool → Option R)} (N : Nat) (Inv : Nat → (Int) → (Int) → ((List Int)) → (Int) → Prop) (G : Nat → (Int) → (Int) → ((List Int)) → (Int) → Option R) (h : ∀ (i : Nat) (x1 : Int) (x2 : Int) (x9 : (List Int)) (x10 : Int) (rec : Int × Int × (List Int) × Int × Int → Option R), i ≤ N → Inv i x1 x2 x9 x10 → (∀ (x1' : Int) (x2' : Int) (x9' : (List Int)) (x10' : Int), i < N → Inv (i + 1) x1' x2' x9' x10' → rec (x1', x2', x9', x10', ((i : Int) + 1)) = G (i + 1) x1' x2' x9' x10') → s2 k rec kx0 kr (x1, x2, x9, x10, (i : Int)) = G i x1 x2 x9 x10) : ∀ (n i : Nat) (x1 : Int) (x2 : Int) (x9 : (List Int)) (x10 : Int), i ≤ N → Inv i x1 x2 x9 x10 → N - i < n → l2 k n (x1, x2, x9, x10, (i : Int)) kx0 kr = G i x1 x2 x9 x10 := by
  intro n
  induction n with
  | zero => intro i x1 x2 x9 x10 _ _ h0; omega
  | succ n ih =>
    intro i x1 x2 x9 x10 hi hv hn
    exact h i x1 x2 x9 x10 (fun w => l2 k n w kx0 kr) hi hv (fun x1' x2' x9' x10' hlt hv' => ih (i + 1) x1' x2' x9' x10' hlt hv' (by omega))
def f (k : Nat) (a0 : (List Int)) (a1 : Int) (a2 : Int) : (Option ((Bool × Unit) × (Unit))) :=
  (l2 k k (a1, a2, a0, ((a0.length : Nat) : Int), (0 : Int)) (fun (_ : Unit) => (some ((true, ()), ()))) (fun o2 => (some ((o2, ()), ()))))
end impl_allWithin

/-! ### loop.example/g00910/impl.increasing -/
namespace impl_increasing
def s2 {R : Type} (k : Nat) (rec : (List Int) × Int → Option R) (kx0 : (Unit → Option R)) (kr : (Bool → Option R)) : (List Int) × Int → Option R := fun (x0, x3) =>
  (bif (decide (x3 < ((x0.length : Nat) : Int))) then (bif ((decide (0 ≤ (IntKind.wrap .i64 (x3 - (1 : Int))))) && (decide ((IntKind.wrap .i64 (x3 - (1 : Int))) < ((x0.length : Nat) : Int)))) then (bif ((decide (0 ≤ x3)) && (decide (x3 < ((x0.length : Nat) : Int)))) then (bif (decide ((x0.getD (Int.toNat (IntKind.wrap .i64 (x3 - (1 : Int)))) (0 : Int)) ≥ (x0.getD (Int.toNat x3) (0 : Int)))) then (kr false) else (rec (x0, (IntKind.wrap .i64 (x3 + (1 : Int)))))) else none) else none) else (kx0 ()))
def l2 {R : Type} (k : Nat) : Nat → (List Int) × Int → (Unit → Option R) → (Bool → Option R) → Option R
  | 0, _, _, _ => none
  | n + 1, v, kx0, kr => s2 k (fun w => l2 k n w kx0 kr) kx0 kr v
theorem l2_fix {R : Type} {k : Nat} {kx0 : (Unit → Option R)} {kr : (Bool → Option R)} (Inv : ((List Int) × Int) → Prop) (μ : ((List Int) × Int) → Nat) (G : ((List Int) × Int) → Option R) (h : ∀ v rec, Inv v → (∀ w, Inv w → μ w < μ v → rec w = G w) → s2 k rec kx0 kr v = G v) : ∀ n v, Inv v → μ v < n → l2 k n v kx0 kr = G v := loop_fix (S := fun rec v => s2 k rec kx0 kr v) (fun _ _ => rfl) Inv μ G h
theorem l2_for {R : Type} {k : Nat} {kx0 : (Unit → Option R)} {kr : (Bool → Option R)} (N : Nat) (Inv : Nat → ((List Int)) → Prop) (G : Nat → ((List Int)) → Option R) (h : ∀ (i : Nat) (x0 : (List Int)) (rec : (List Int) × Int → Option R), i ≤ N → Inv i x0 → (∀ (x0' : (List Int)), i < N → Inv (i + 1) x0' → rec (x0', ((i : Int) + 1)) = G (i + 1) x0') → s2 k rec kx0 kr (x0, (i : Int)) = G i x0) : ∀ (n i : Nat) (x0 : (List Int)), i ≤ N → Inv i x0 → N - i < n → l2 k n (x0, (i : Int)) kx0 kr = G i x0 := by
  intro n
  induction n with
  | zero => intro i x0 _ _ h0; omega
  | succ n ih =>
    intro i x0 hi hv hn
    exact h i x0 (fun w => l2 k n w kx0 kr) hi hv (fun x0' hlt hv' => ih (i + 1) x0' hlt hv' (by omega))
def f (k : Nat) (a0 : (List Int)) : (Option ((Bool × Unit) × (Unit))) :=
  (l2 k k (a0, (1 : Int)) (fun (_ : Unit) => (some ((true, ()), ()))) (fun o1 => (some ((o1, ()), ()))))
end impl_increasing

/-! ### loop.example/g00910/impl.areWinners -/
namespace impl_areWinners
def f (k : Nat) (a0 : (List Int)) (a1 : Int) : (Option ((Bool × Unit) × (Unit))) :=
  (bif (decide (((a0.length : Nat) : Int) > (0 : Int))) then ((impl_allWithin.f k a0 (0 : Int) (IntKind.wrap .i64 (a1 - (1 : Int)))).bind fun r1 => (bif r1.1.1 then ((impl_increasing.f k a0).bind fun r2 => (some ((r2.1.1, ()), ()))) else (some ((false, ()), ())))) else (some ((false, ()), ())))
end impl_areWinners

/-! ### loop.example/g00910/impl.areValues$1 -/
namespace impl_areValues_1
def f (k : Nat) (a0 : Int) : (Option ((Bool × Unit) × (Unit))) :=
  (some (((decide (a0 < (-1 : Int))), ()), ()))
end impl_areValues_1

/-! ### loop.example/g00910/impl.areValues -/
namespace impl_areValues
def i1001_i1002_s2 {R : Type} (k : Nat) (rec : (List Int) × Int × Int → Option R) (kx0 : (Unit → Option R)) (kr : (Int → Option R)) : (List Int) × Int × Int → Option R := fun (x0, x7, x8) =>
  (bif (decide (x8 < x7)) then (bif ((decide (0 ≤ x8)) && (decide (x8 < ((x0.length : Nat) : Int)))) then ((impl_areValues_1.f k (x0.getD (Int.toNat x8) (0 : Int))).bind fun r1 => (bif r1.1.1 then (kr x8) else (rec (x0, x7, (IntKind.wrap .i64 (x8 + (1 : Int))))))) else none) else (kx0 ()))
def i1001_i1002_l2 {R : Type} (k : Nat) : Nat → (List Int) × Int × Int → (Unit → Option R) → (Int → Option R) → Option R
  | 0, _, _, _ => none
  | n + 1, v, kx0, kr => i1001_i1002_s2 k (fun w => i1001_i1002_l2 k n w kx0 kr) kx0 kr v
theorem i1001_i1002_l2_fix {R : Type} {k : Nat} {kx0 : (Unit → Option R)} {kr : (Int → Option R)} (Inv : ((List Int) × Int × Int) → Prop) (μ : ((List Int) × Int × Int) → Nat) (G : ((List Int) × Int × Int) → Option R) (h : ∀ v rec, Inv v → (∀ w, Inv w → μ w < μ v → rec w = G w) → i1001_i1002_s2 k rec kx0 kr v = G v) : ∀ n v, Inv v → μ v < n → i1001_i1002_l2 k n v kx0 kr = G v := loop_fix (S := fun rec v => i1001_i1002_s2 k rec kx0 kr v) (fun _ _ => rfl) Inv μ G h
theorem i1001_i1002_l2_for {R : Type} {k : Nat} {kx0 : (Unit → Option R)} {kr : (Int → Option R)} (N : Nat) (Inv : Nat → ((List Int)) → (Int) → Prop) (G : Nat → ((List Int)) → (Int) → Option R) (h : ∀ (i : Nat) (x0 : (List Int)) (x7 : Int) (rec : (List Int) × Int × Int → Option R), i ≤ N → Inv i x0 x7 → (∀ (x0' : (List Int)) (x7' : Int), i < N → Inv (i + 1) x0' x7' → rec (x0', x7', ((i : Int) + 1)) = G (i + 1) x0' x7') → i1001_i1002_s2 k rec kx0 kr (x0, x7, (i : Int)) = G i x0 x7) : ∀ (n i : Nat) (x0 : (List Int)) (x7 : Int), i ≤ N → Inv i x0 x7 → N - i < n → i1001_i1002_l2 k n (x0, x7, (i : Int)) kx0 kr = G i x0 x7 := by
  intro n
  induction n with
  | zero => intro i x0 x7 _ _ h0; omega
  | succ n ih =>
    intro i x0 x7 hi hv hn
    exact h i x0 x7 (fun w => i1001_i1002_l2 k n w kx0 kr) hi hv (fun x0' x7' hlt hv' => ih (i + 1) x0' x7' hlt hv' (by omega))
def f (k : Nat) (a0 : (List Int)) : (Option ((Bool × Unit) × (Unit))) :=
  (i1001_i1002_l2 k k (a0, ((a0.length : Nat) : Int), (0 : Int)) (fun (_ : Unit) => (some (((!(decide ((-1 : Int) ≥ (0 : Int)))), ()), ()))) (fun o2 => (some (((!(decide (o2 ≥ (0 : Int)))), ()), ()))))
end impl_areValues

/-! ### loop.example/g00910/impl.highWinners -/
namespace impl_highWinners
def s4 {R : Type} (k : Nat) (rec : (List Int) × Int × (List Int) × Int × Int × (List Int) → Option R) (kx0 : ((List Int) → Option R)) : (List Int) × Int × (List Int) × Int × Int × (List Int) → Option R := fun (x1, x6, x9, x10, x11, y0) =>
  (bif (decide (x11 < x10)) then (bif ((decide (0 ≤ x11)) && (decide (x11 < ((x9.length : Nat) : Int)))) then (bif ((decide (0 ≤ (x9.getD (Int.toNat x11) (0 : Int)))) && (decide ((x9.getD (Int.toNat x11) (0 : Int)) < ((x1.length : Nat) : Int)))) then (bif (decide ((x1.getD (Int.toNat (x9.getD (Int.toNat x11) (0 : Int))) (0 : Int)) > x6)) then (bif ((decide (0 ≤ (x9.getD (Int.toNat x11) (0 : Int)))) && (decide ((x9.getD (Int.toNat x11) (0 : Int)) < ((x1.length : Nat) : Int)))) then (bif ((decide (0 ≤ (x9.getD (Int.toNat x11) (0 : Int)))) && (decide ((x9.getD (Int.toNat x11) (0 : Int)) < ((x1.length : Nat) : Int)))) then (bif ((x1.getD (Int.toNat (x9.getD (Int.toNat x11) (0 : Int))) (0 : Int)) == (x1.getD (Int.toNat (x9.getD (Int.toNat x11) (0 : Int))) (0 : Int))) then (bif (decide (([(x9.getD (Int.toNat x11) (0 : Int))] : List Int).length * 8 ≤ AM.maxBytes)) then (rec (x1, (x1.getD (Int.toNat (x9.getD (Int.toNat x11) (0 : Int))) (0 : Int)), x9, x10, (IntKind.wrap .i64 (x11 + (1 : Int))), ([(x9.getD (Int.toNat x11) (0 : Int))] : List Int))) else none) else (rec (x1, (x1.getD (Int.toNat (x9.getD (Int.toNat x11) (0 : Int))) (0 : Int)), x9, x10, (IntKind.wrap .i64 (x11 + (1 : Int))), ([] : List Int)))) else none) else none) else (bif ((decide (0 ≤ (x9.getD (Int.toNat x11) (0 : Int)))) && (decide ((x9.getD (Int.toNat x11) (0 : Int)) < ((x1.length : Nat) : Int)))) then (bif ((x1.getD (Int.toNat (x9.getD (Int.toNat x11) (0 : Int))) (0 : Int)) == x6) then (bif (decide ((y0.length + ([(x9.getD (Int.toNat x11) (0 : Int))] : List Int).length) * 8 ≤ AM.maxBytes)) then (rec (x1, x6, x9, x10, (IntKind.wrap .i64 (x11 + (1 : Int))), (y0 ++ ([(x9.getD (Int.toNat x11) (0 : Int))] : List Int)))) else none) else (rec (x1, x6, x9, x10, (IntKind.wrap .i64 (x11 + (1 : Int))), y0))) else none)) else none) else none) else (kx0 y0))
def l4 {R : Type} (k : Nat) : Nat → (List Int) × Int × (List Int) × Int × Int × (List Int) → ((List Int) → Option R) → Option R
  | 0, _, _ => none
  | n + 1, v, kx0 => s4 k (fun w => l4 k n w kx0) kx0 v
theorem l4_fix {R : Type} {k : Nat} {kx0 : ((List Int) → Option R)} (Inv : ((List Int) × Int × (List Int) × Int × Int × (List Int)) → Prop) (μ : ((List Int) × Int × (List Int) × Int × Int × (List Int)) → Nat) (G : ((List Int) × Int × (List Int) × Int × Int × (List Int)) → Option R) (h : ∀ v rec, Inv v → (∀ w, Inv w → μ w < μ v → rec w = G w) → s4 k rec kx0 v = G v) : ∀ n v, Inv v → μ v < n → l4 k n v kx0 = G v := loop_fix (S := fun rec v => s4 k rec kx0 v) (fun _ _ => rfl) Inv μ G h
theorem l4_for {R : Type} {k : Nat} {kx0 : ((List Int) → Option R)} (N : Nat) (Inv : Nat → ((List Int)) → (Int) → ((List Int)) → (Int) → ((List Int)) → Prop) (G : Nat → ((List Int)) → (Int) → ((List Int)) → (Int) → ((List Int)) → Option R) (h : ∀ (i : Nat) (x1 : (List Int)) (x6 : Int) (x9 : (List Int)) (x10 : Int) (y0 : (List Int)) (rec : (List Int) × Int × (List Int) × Int × Int × (List Int) → Option R), i ≤ N → Inv i x1 x6 x9 x10 y0 → (∀ (x1' : (List Int)) (x6' : Int) (x9' : (List Int)) (x10' : Int) (y0' : (List Int)), i < N → Inv (i + 1) x1' x6' x9' x10' y0' → rec (x1', x6', x9', x10', ((i : Int) + 1), y0') = G (i + 1) x1' x6' x9' x10' y0') → s4 k rec kx0 (x1, x6, x9, x10, (i : Int), y0) = G i x1 x6 x9 x10 y0) : ∀ (n i : Nat) (x1 : (List Int)) (x6 : Int) (x9 : (List Int)) (x10 : Int) (y0 : (List Int)), i ≤ N → Inv i x1 x6 x9 x10 y0 → N - i < n → l4 k n (x1, x6, x9, x10, (i : Int), y0) kx0 = G i x1 x6 x9 x10 y0 := by
  intro n
  induction n with
  | zero => intro i x1 x6 x9 x10 y0 _ _ h0; omega
  | succ n ih =>
    intro i x1 x6 x9 x10 y0 hi hv hn
    exact h i x1 x6 x9 x10 y0 (fun w => l4 k n w kx0) hi hv (fun x1' x6' x9' x10' y0' hlt hv' => ih (i + 1) x1' x6' x9' x10' y0' hlt hv' (by omega))
def f (k : Nat) (a0 : (List Int)) (a1 : (List Int)) : (Option (((List Int) × Unit) × (Unit))) :=
  (l4 k k (a1, (0 : Int), a0, ((a0.length : Nat) : Int), (0 : Int), ([] : List Int)) (fun o1 => (some ((o1, ()), ()))))
end impl_highWinners

/-! ### loop.example/g00910/impl.lowWinners -/
namespace impl_lowWinners
def s4 {R : Type} (k : Nat) (rec : (List Int) × Int × (List Int) × Int × Int × (List Int) → Option R) (kx0 : ((List Int) → Option R)) : (List Int) × Int × (List Int) × Int × Int × (List Int) → Option R := fun (x1, x6, x9, x10, x11, y0) =>
  (bif (decide (x11 < x10)) then (bif ((decide (0 ≤ x11)) && (decide (x11 < ((x9.length : Nat) : Int)))) then (bif ((decide (0 ≤ (x9.getD (Int.toNat x11) (0 : Int)))) && (decide ((x9.getD (Int.toNat x11) (0 : Int)) < ((x1.length : Nat) : Int)))) then (bif (decide ((x1.getD (Int.toNat (x9.getD (Int.toNat x11) (0 : Int))) (0 : Int)) < (0 : Int))) then (rec (x1, x6, x9, x10, (IntKind.wrap .i64 (x11 + (1 : Int))), y0)) else (bif (decide (x6 < (0 : Int))) then (bif ((decide (0 ≤ (x9.getD (Int.toNat x11) (0 : Int)))) && (decide ((x9.getD (Int.toNat x11) (0 : Int)) < ((x1.length : Nat) : Int)))) then (bif ((decide (0 ≤ (x9.getD (Int.toNat x11) (0 : Int)))) && (decide ((x9.getD (Int.toNat x11) (0 : Int)) < ((x1.length : Nat) : Int)))) then (bif ((x1.getD (Int.toNat (x9.getD (Int.toNat x11) (0 : Int))) (0 : Int)) == (x1.getD (Int.toNat (x9.getD (Int.toNat x11) (0 : Int))) (0 : Int))) then (bif (decide (([(x9.getD (Int.toNat x11) (0 : Int))] : List Int).length * 8 ≤ AM.maxBytes)) then (rec (x1, (x1.getD (Int.toNat (x9.getD (Int.toNat x11) (0 : Int))) (0 : Int)), x9, x10, (IntKind.wrap .i64 (x11 + (1 : Int))), ([(x9.getD (Int.toNat x11) (0 : Int))] : List Int))) else none) else (rec (x1, (x1.getD (Int.toNat (x9.getD (Int.toNat x11) (0 : Int))) (0 : Int)), x9, x10, (IntKind.wrap .i64 (x11 + (1 : Int))), ([] : List Int)))) else none) else none) else (bif ((decide (0 ≤ (x9.getD (Int.toNat x11) (0 : Int)))) && (decide ((x9.getD (Int.toNat x11) (0 : Int)) < ((x1.length : Nat) : Int)))) then (bif (decide ((x1.getD (Int.toNat (x9.getD (Int.toNat x11) (0 : Int))) (0 : Int)) < x6)) then (bif ((decide (0 ≤ (x9.getD (Int.toNat x11) (0 : Int)))) && (decide ((x9.getD (Int.toNat x11) (0 : Int)) < ((x1.length : Nat) : Int)))) then (bif ((decide (0 ≤ (x9.getD (Int.toNat x11) (0 : Int)))) && (decide ((x9.getD (Int.toNat x11) (0 : Int)) < ((x1.length : Nat) : Int)))) then (bif ((x1.getD (Int.toNat (x9.getD (Int.toNat x11) (0 : Int))) (0 : Int)) == (x1.getD (Int.toNat (x9.getD (Int.toNat x11) (0 : Int))) (0 : Int))) then (bif (decide (([(x9.getD (Int.toNat x11) (0 : Int))] : List Int).length * 8 ≤ AM.maxBytes)) then (rec (x1, (x1.getD (Int.toNat (x9.getD (Int.toNat x11) (0 : Int))) (0 : Int)), x9, x10, (IntKind.wrap .i64 (x11 + (1 : Int))), ([(x9.getD (Int.toNat x11) (0 : Int))] : List Int))) else none) else (rec (x1, (x1.getD (Int.toNat (x9.getD (Int.toNat x11) (0 : Int))) (0 : Int)), x9, x10, (IntKind.wrap .i64 (x11 + (1 : Int))), ([] : List Int)))) else none) else none) else (bif ((decide (0 ≤ (x9.getD (Int.toNat x11) (0 : Int)))) && (decide ((x9.getD (Int.toNat x11) (0 : Int)) < ((x1.length : Nat) : Int)))) then (bif ((x1.getD (Int.toNat (x9.getD (Int.toNat x11) (0 : Int))) (0 : Int)) == x6) then (bif (decide ((y0.length + ([(x9.getD (Int.toNat x11) (0 : Int))] : List Int).length) * 8 ≤ AM.maxBytes)) then (rec (x1, x6, x9, x10, (IntKind.wrap .i64 (x11 + (1 : Int))), (y0 ++ ([(x9.getD (Int.toNat x11) (0 : Int))] : List Int)))) else none) else (rec (x1, x6, x9, x10, (IntKind.wrap .i64 (x11 + (1 : Int))), y0))) else none)) else none))) else none) else none) else (kx0 y0))
def l4 {R : Type} (k : Nat) : Nat → (List Int) × Int × (List Int) × Int × Int × (List Int) → ((List Int) → Option R) → Option R
  | 0, _, _ => none
  | n + 1, v, kx0 => s4 k (fun w => l4 k n w kx0) kx0 v
theorem l4_fix {R : Type} {k : Nat} {kx0 : ((List Int) → Option R)} (Inv : ((List Int) × Int × (List Int) × Int × Int × (List Int)) → Prop) (μ : ((List Int) × Int × (List Int) × Int × Int × (List Int)) → Nat) (G : ((List Int) × Int × (List Int) × Int × Int × (List Int)) → Option R) (h : ∀ v rec, Inv v → (∀ w, Inv w → μ w < μ v → rec w = G w) → s4 k rec kx0 v = G v) : ∀ n v, Inv v → μ v < n → l4 k n v kx0 = G v := loop_fix (S := fun rec v => s4 k rec kx0 v) (fun _ _ => rfl) Inv μ G h
theorem l4_for {R : Type} {k : Nat} {kx0 : ((List Int) → Option R)} (N : Nat) (Inv : Nat → ((List Int)) → (Int) → ((List Int)) → (Int) → ((List Int)) → Prop) (G : Nat → ((List Int)) → (Int) → ((List Int)) → (Int) → ((List Int)) → Option R) (h : ∀ (i : Nat) (x1 : (List Int)) (x6 : Int) (x9 : (List Int)) (x10 : Int) (y0 : (List Int)) (rec : (List Int) × Int × (List Int) × Int × Int × (List Int) → Option R), i ≤ N → Inv i x1 x6 x9 x10 y0 → (∀ (x1' : (List Int)) (x6' : Int) (x9' : (List Int)) (x10' : Int) (y0' : (List Int)), i < N → Inv (i + 1) x1' x6' x9' x10' y0' → rec (x1', x6', x9', x10', ((i : Int) + 1), y0') = G (i + 1) x1' x6' x9' x10' y0') → s4 k rec kx0 (x1, x6, x9, x10, (i : Int), y0) = G i x1 x6 x9 x10 y0) : ∀ (n i : Nat) (x1 : (List Int)) (x6 : Int) (x9 : (List Int)) (x10 : Int) (y0 : (List Int)), i ≤ N → Inv i x1 x6 x9 x10 y0 → N - i < n → l4 k n (x1, x6, x9, x10, (i : Int), y0) kx0 = G i x1 x6 x9 x10 y0 := by
  intro n
  induction n with
  | zero => intro i x1 x6 x9 x10 y0 _ _ h0; omega
  | succ n ih =>
    intro i x1 x6 x9 x10 y0 hi hv hn
    exact h i x1 x6 x9 x10 y0 (fun w => l4 k n w kx0) hi hv (fun x1' x6' x9' x10' y0' hlt hv' => ih (i + 1) x1' x6' x9' x10' y0' hlt hv' (by omega))
def f (k : Nat) (a0 : (List Int)) (a1 : (List Int)) : (Option (((List Int) × Unit) × (Unit))) :=
  (l4 k k (a1, (-1 : Int), a0, ((a0.length : Nat) : Int), (0 : Int), ([] : List Int)) (fun o1 => (some ((o1, ()), ()))))
end impl_lowWinners

/-! ### slices.Index[[]int64,int64] -/
namespace slices_Index_int64_int64
def s2 {R : Type} (k : Nat) (rec : (List Int) × Int × Int × Int → Option R) (kx0 : (Unit → Option R)) (kr : (Int → Option R)) : (List Int) × Int × Int × Int → Option R := fun (x0, x1, x7, x8) =>
  (bif (decide (x8 < x7)) then (bif ((decide (0 ≤ x8)) && (decide (x8 < ((x0.length : Nat) : Int)))) then (bif (x1 == (x0.getD (Int.toNat x8) (0 : Int))) then (kr x8) else (rec (x0, x1, x7, (IntKind.wrap .i64 (x8 + (1 : Int)))))) else none) else (kx0 ()))
def l2 {R : Type} (k : Nat) : Nat → (List Int) × Int × Int × Int → (Unit → Option R) → (Int → Option R) → Option R
  | 0, _, _, _ => none
  | n + 1, v, kx0, kr => s2 k (fun w => l2 k n w kx0 kr) kx0 kr v
theorem l2_fix {R : Type} {k : Nat} {kx0 : (Unit → Option R)} {kr : (Int → Option R)} (Inv : ((List Int) × Int × Int × Int) → Prop) (μ : ((List Int) × Int × Int × Int) → Nat) (G : ((List Int) × Int × Int × Int) → Option R) (h : ∀ v rec, Inv v → (∀ w, Inv w → μ w < μ v → rec w = G w) → s2 k rec kx0 kr v = G v) : ∀ n v, Inv v → μ v < n → l2 k n v kx0 kr = G v := loop_fix (S := fun rec v => s2 k rec kx0 kr v) (fun _ _ => rfl) Inv μ G h
theorem l2_for {R : Type} {k : Nat} {kx0 : (Unit → Option R)} {kr : (Int → Option R)} (N : Nat) (Inv : Nat → ((List Int)) → (Int) → (Int) → Prop) (G : Nat → ((List Int)) → (Int) → (Int) → Option R) (h : ∀ (i : Nat) (x0 : (List Int)) (x1 : Int) (x7 : Int) (rec : (List Int) × Int × Int × Int → Option R), i ≤ N → Inv i x0 x1 x7 → (∀ (x0' : (List Int)) (x1' : Int) (x7' : Int), i < N → Inv (i + 1) x0' x1' x7' → rec (x0', x1', x7', ((i : Int) + 1)) = G (i + 1) x0' x1' x7') → s2 k rec kx0 kr (x0, x1, x7, (i : Int)) = G i x0 x1 x7) : ∀ (n i : Nat) (x0 : (List Int)) (x1 : Int) (x7 : Int), i ≤ N → Inv i x0 x1 x7 → N - i < n → l2 k n (x0, x1, x7, (i : Int)) kx0 kr = G i x0 x1 x7 := by
  intro n
  induction n with
  | zero => intro i x0 x1 x7 _ _ h0; omega
  | succ n ih =>
    intro i x0 x1 x7 hi hv hn
    exact h i x0 x1 x7 (fun w => l2 k n w kx0 kr) hi hv (fun x0' x1' x7' hlt hv' => ih (i + 1) x0' x1' x7' hlt hv' (by omega))
def f (k : Nat) (a0 : (List Int)) (a1 : Int) : (Option ((Int × Unit) × (Unit))) :=
  (l2 k k (a0, a1, ((a0.length : Nat) : Int), (0 : Int)) (fun (_ : Unit) => (some (((-1 : Int), ()), ()))) (fun o1 => (some ((o1, ()), ()))))
end slices_Index_int64_int64

/-! ### slices.Contains[[]int64,int64] -/
namespace slices_Contains_int64_int64
def f (k : Nat) (a0 : (List Int)) (a1 : Int) : (Option ((Bool × Unit) × (Unit))) :=
  ((slices_Index_int64_int64.f k a0 a1).bind fun r1 => (some (((decide (r1.1.1 ≥ (0 : Int))), ()), ())))
end slices_Contains_int64_int64

/-! ### loop.example/g00910/impl.splitChips -/
namespace impl_splitChips
def s5 {R : Type} (k : Nat) (rec : Int × (List Int) × Int × Int × Int × Int × Int × Int × (List Int) → Option R) (kx0 : ((List Int) → Option R)) : Int × (List Int) × Int × Int × Int × Int × Int × Int × (List Int) → Option R := fun (x0, x1, x2, x3, x10, x11, x21, x22, y0) =>
  (bif (decide (x22 < x21)) then (bif (!(decide (x2 = 0))) then ((slices_Contains_int64_int64.f k x1 (Int.tmod (IntKind.wrap .i64 (x3 + x22)) x2)).bind fun r1 => (bif (!r1.1.1) then (rec (x0, x1, x2, x3, x10, x11, x21, (IntKind.wrap .i64 (x22 + (1 : Int))), y0)) else (bif (!(decide (x10 = 0))) then (bif ((decide (0 ≤ (Int.tmod (IntKind.wrap .i64 (x3 + x22)) x2))) && (decide ((Int.tmod (IntKind.wrap .i64 (x3 + x22)) x2) < ((y0.length : Nat) : Int)))) then (bif (decide ((Int.toNat (Int.tmod (IntKind.wrap .i64 (x3 + x22)) x2)) < y0.length)) then (bif (decide (x11 > (0 : Int))) then (bif ((decide (0 ≤ (Int.tmod (IntKind.wrap .i64 (x3 + x22)) x2))) && (decide ((Int.tmod (IntKind.wrap .i64 (x3 + x22)) x2) < (((y0.set (Int.toNat (Int.tmod (IntKind.wrap .i64 (x3 + x22)) x2)) (IntKind.wrap .i64 (Int.tdiv x0 x10))).length : Nat) : Int)))) then (bif (decide ((Int.toNat (Int.tmod (IntKind.wrap .i64 (x3 + x22)) x2)) < (y0.set (Int.toNat (Int.tmod (IntKind.wrap .i64 (x3 + x22)) x2)) (IntKind.wrap .i64 (Int.tdiv x0 x10))).length)) then (bif ((decide (0 ≤ (Int.tmod (IntKind.wrap .i64 (x3 + x22)) x2))) && (decide ((Int.tmod (IntKind.wrap .i64 (x3 + x22)) x2) < (((y0.set (Int.toNat (Int.tmod (IntKind.wrap .i64 (x3 + x22)) x2)) (IntKind.wrap .i64 (Int.tdiv x0 x10))).length : Nat) : Int)))) then (bif (decide ((Int.toNat (Int.tmod (IntKind.wrap .i64 (x3 + x22)) x2)) < (y0.set (Int.toNat (Int.tmod (IntKind.wrap .i64 (x3 + x22)) x2)) (IntKind.wrap .i64 (Int.tdiv x0 x10))).length)) then (rec (x0, x1, x2, x3, x10, (IntKind.wrap .i64 (x11 - (1 : Int))), x21, (IntKind.wrap .i64 (x22 + (1 : Int))), ((y0.set (Int.toNat (Int.tmod (IntKind.wrap .i64 (x3 + x22)) x2)) (IntKind.wrap .i64 (Int.tdiv x0 x10))).set (Int.toNat (Int.tmod (IntKind.wrap .i64 (x3 + x22)) x2)) (IntKind.wrap .i64 (((y0.set (Int.toNat (Int.tmod (IntKind.wrap .i64 (x3 + x22)) x2)) (IntKind.wrap .i64 (Int.tdiv x0 x10))).getD (Int.toNat (Int.tmod (IntKind.wrap .i64 (x3 + x22)) x2)) (0 : Int)) + (1 : Int)))))) else none) else none) else none) else none) else (rec (x0, x1, x2, x3, x10, x11, x21, (IntKind.wrap .i64 (x22 + (1 : Int))), (y0.set (Int.toNat (Int.tmod (IntKind.wrap .i64 (x3 + x22)) x2)) (IntKind.wrap .i64 (Int.tdiv x0 x10)))))) else none) else none) else none))) else none) else (kx0 y0))
def l5 {R : Type} (k : Nat) : Nat → Int × (List Int) × Int × Int × Int × Int × Int × Int × (List Int) → ((List Int) → Option R) → Option R
  | 0, _, _ => none
  | n + 1, v, kx0 => s5 k (fun w => l5 k n w kx0) kx0 v
theorem l5_fix {R : Type} {k : Nat} {kx0 : ((List Int) → Option R)} (Inv : (Int × (List Int) × Int × Int × Int × Int × Int × Int × (List Int)) → Prop) (μ : (Int × (List Int) × Int × Int × Int × Int × Int × Int × (List Int)) → Nat) (G : (Int × (List Int) × Int × Int × Int × Int × Int × Int × (List Int)) → Option R) (h : ∀ v rec, Inv v → (∀ w, Inv w → μ w < μ v → rec w = G w) → s5 k rec kx0 v = G v) : ∀ n v, Inv v → μ v < n → l5 k n v kx0 = G v := loop_fix (S := fun rec v => s5 k rec kx0 v) (fun _ _ => rfl) Inv μ G h
theorem l5_for {R : Type} {k : Nat} {kx0 : ((List Int) → Option R)} (N : Nat) (Inv : Nat → (Int) → ((List Int)) → (Int) → (Int) → (Int) → (Int) → (Int) → ((List Int)) → Prop) (G : Nat → (Int) → ((List Int)) → (Int) → (Int) → (Int) → (Int) → (Int) → ((List Int)) → Option R) (h : ∀ (i : Nat) (x0 : Int) (x1 : (List Int)) (x2 : Int) (x3 : Int) (x10 : Int) (x11 : Int) (x21 : Int) (y0 : (List Int)) (rec : Int × (List Int) × Int × Int × Int × Int × Int × Int × (List Int) → Option R), i ≤ N → Inv i x0 x1 x2 x3 x10 x11 x21 y0 → (∀ (x0' : Int) (x1' : (List Int)) (x2' : Int) (x3' : Int) (x10' : Int) (x11' : Int) (x21' : Int) (y0' : (List Int)), i < N → Inv (i + 1) x0' x1' x2' x3' x10' x11' x21' y0' → rec (x0', x1', x2', x3', x10', x11', x21', ((i : Int) + 1), y0') = G (i + 1) x0' x1' x2' x3' x10' x11' x21' y0') → s5 k rec kx0 (x0, x1, x2, x3, x10, x11, x21, (i : Int), y0) = G i x0 x1 x2 x3 x10 x11 x21 y0) : ∀ (n i : Nat) (x0 : Int) (x1 : (List Int)) (x2 : Int) (x3 : Int) (x10 : Int) (x11 : Int) (x21 : Int) (y0 : (List Int)), i ≤ N → Inv i x0 x1 x2 x3 x10 x11 x21 y0 → N - i < n → l5 k n (x0, x1, x2, x3, x10, x11, x21, (i : Int), y0) kx0 = G i x0 x1 x2 x3 x10 x11 x21 y0 := by
  intro n
  induction n with
  | zero => intro i x0 x1 x2 x3 x10 x11 x21 y0 _ _ h0; omega
  | succ n ih =>
    intro i x0 x1 x2 x3 x10 x11 x21 y0 hi hv hn
    exact h i x0 x1 x2 x3 x10 x11 x21 y0 (fun w => l5 k n w kx0) hi hv (fun x0' x1' x2' x3' x10' x11' x21' y0' hlt hv' => ih (i + 1) x0' x1' x2' x3' x10' x11' x21' y0' hlt hv' (by omega))
def f (k : Nat) (a0 : Int) (a1 : (List Int)) (a2 : Int) (a3 : Int) : (Option (((List Int) × Unit) × (Unit))) :=
  (bif ((decide (0 ≤ a2)) && ((decide (a2 ≤ a2)) && (decide (a2 * ((8 : Nat) : Int) ≤ (AM.maxBytes : Int))))) then (bif (!(decide (((a1.length : Nat) : Int) = 0))) then (l5 k k (a0, a1, a2, a3, ((a1.length : Nat) : Int), (Int.tmod a0 ((a1.length : Nat) : Int)), a2, (0 : Int), (List.replicate (Int.toNat a2) (0 : Int))) (fun o2 => (some ((o2, ()), ())))) else none) else none)
end impl_splitChips

/-! ### loop.example/g00910/impl.awarded -/
namespace impl_awarded
def i10005_s1 {R : Type} (k : Nat) (rec : Int × Int × (List Int) × (List Int) × (List (Int × ((List Int) × Unit))) × Int × Int × (List Int) × (List Int) × Int × Int × Int × (List Int) × (List Int) → Option R) (kx0 : ((List Int) × (List Int) × (List (Int × ((List Int) × Unit))) × Int × Int × (List Int) × Int × Int × Int × (List Int) × (List Int) → Option R)) : Int × Int × (List Int) × (List Int) × (List (Int × ((List Int) × Unit))) × Int × Int × (List Int) × (List Int) × Int × Int × Int × (List Int) × (List Int) → Option R := fun (x14, x15, x4096, x4097, x4102, x4103, x4104, y0, y2, z3_0, z4_0, z5_0, z5_1, y6) =>
  (bif (decide (x15 < x14)) then (bif ((decide (0 ≤ x15)) && (decide (x15 < ((y2.length : Nat) : Int)))) then (bif (decide ((Int.toNat x15) < y2.length)) then (bif ((decide (0 ≤ x15)) && (decide (x15 < ((y0.length : Nat) : Int)))) then (bif (decide ((Int.toNat x15) < y0.length)) then (bif ((decide (0 ≤ x15)) && (decide (x15 < ((y0.length : Nat) : Int)))) then (bif (decide ((Int.toNat x15) < y0.length)) then (rec (x14, (IntKind.wrap .i64 (x15 + (1 : Int))), x4096, x4097, x4102, x4103, x4104, (y0.set (Int.toNat x15) (IntKind.wrap .i64 ((y0.getD (Int.toNat x15) (0 : Int)) + (y2.getD (Int.toNat x15) (0 : Int))))), y2, z3_0, z4_0, z5_0, z5_1, y6)) else none) else none) else none) else none) else none) else none) else (kx0 (x4096, x4097, x4102, x4103, x4104, y0, z3_0, z4_0, z5_0, z5_1, y6)))
def i10005_l1 {R : Type} (k : Nat) : Nat → Int × Int × (List Int) × (List Int) × (List (Int × ((List Int) × Unit))) × Int × Int × (List Int) × (List Int) × Int × Int × Int × (List Int) × (List Int) → ((List Int) × (List Int) × (List (Int × ((List Int) × Unit))) × Int × Int × (List Int) × Int × Int × Int × (List Int) × (List Int) → Option R) → Option R
  | 0, _, _ => none
  | n + 1, v, kx0 => i10005_s1 k (fun w => i10005_l1 k n w kx0) kx0 v
theorem i10005_l1_fix {R : Type} {k : Nat} {kx0 : ((List Int) × (List Int) × (List (Int × ((List Int) × Unit))) × Int × Int × (List Int) × Int × Int × Int × (List Int) × (List Int) → Option R)} (Inv : (Int × Int × (List Int) × (List Int) × (List (Int × ((List Int) × Unit))) × Int × Int × (List Int) × (List Int) × Int × Int × Int × (List Int) × (List Int)) → Prop) (μ : (Int × Int × (List Int) × (List Int) × (List (Int × ((List Int) × Unit))) × Int × Int × (List Int) × (List Int) × Int × Int × Int × (List Int) × (List Int)) → Nat) (G : (Int × Int × (List Int) × (List Int) × (List (Int × ((List Int) × Unit))) × Int × Int × (List Int) × (List Int) × Int × Int × Int × (List Int) × (List Int)) → Option R) (h : ∀ v rec, Inv v → (∀ w, Inv w → μ w < μ v → rec w = G w) → i10005_s1 k rec kx0 v = G v) : ∀ n v, Inv v → μ v < n → i10005_l1 k n v kx0 = G v := loop_fix (S := fun rec v => i10005_s1 k rec kx0 v) (fun _ _ => rfl) Inv μ G h
theorem i10005_l1_for {R : Type} {k : Nat} {kx0 : ((List Int) × (List Int) × (List (Int × ((List Int) × Unit))) × Int × Int × (List Int) × Int × Int × Int × (List Int) × (List Int) → Option R)} (N : Nat) (Inv : Nat → (Int) → ((List Int)) → ((List Int)) → ((List (Int × ((List Int) × Unit)))) → (Int) → (Int) → ((List Int)) → ((List Int)) → (Int) → (Int) → (Int) → ((List Int)) → ((List Int)) → Prop) (G : Nat → (Int) → ((List Int)) → ((List Int)) → ((List (Int × ((List Int) × Unit)))) → (Int) → (Int) → ((List Int)) → ((List Int)) → (Int) → (Int) → (Int) → ((List Int)) → ((List Int)) → Option R) (h : ∀ (i : Nat) (x14 : Int) (x4096 : (List Int)) (x4097 : (List Int)) (x4102 : (List (Int × ((List Int) × Unit)))) (x4103 : Int) (x4104 : Int) (y0 : (List Int)) (y2 : (List Int)) (z3_0 : Int) (z4_0 : Int) (z5_0 : Int) (z5_1 : (List Int)) (y6 : (List Int)) (rec : Int × Int × (List Int) × (List Int) × (List (Int × ((List Int) × Unit))) × Int × Int × (List Int) × (List Int) × Int × Int × Int × (List Int) × (List Int) → Option R), i ≤ N → Inv i x14 x4096 x4097 x4102 x4103 x4104 y0 y2 z3_0 z4_0 z5_0 z5_1 y6 → (∀ (x14' : Int) (x4096' : (List Int)) (x4097' : (List Int)) (x4102' : (List (Int × ((List Int) × Unit)))) (x4103' : Int) (x4104' : Int) (y0' : (List Int)) (y2' : (List Int)) (z3_0' : Int) (z4_0' : Int) (z5_0' : Int) (z5_1' : (List Int)) (y6' : (List Int)), i < N → Inv (i + 1) x14' x4096' x4097' x4102' x4103' x4104' y0' y2' z3_0' z4_0' z5_0' z5_1' y6' → rec (x14', ((i : Int) + 1), x4096', x4097', x4102', x4103', x4104', y0', y2', z3_0', z4_0', z5_0', z5_1', y6') = G (i + 1) x14' x4096' x4097' x4102' x4103' x4104' y0' y2' z3_0' z4_0' z5_0' z5_1' y6') → i10005_s1 k rec kx0 (x14, (i : Int), x4096, x4097, x4102, x4103, x4104, y0, y2, z3_0, z4_0, z5_0, z5_1, y6) = G i x14 x4096 x4097 x4102 x4103 x4104 y0 y2 z3_0 z4_0 z5_0 z5_1 y6) : ∀ (n i : Nat) (x14 : Int) (x4096 : (List Int)) (x4097 : (List Int)) (x4102 : (List (Int × ((List Int) × Unit)))) (x4103 : Int) (x4104 : Int) (y0 : (List Int)) (y2 : (List Int)) (z3_0 : Int) (z4_0 : Int) (z5_0 : Int) (z5_1 : (List Int)) (y6 : (List Int)), i ≤ N → Inv i x14 x4096 x4097 x4102 x4103 x4104 y0 y2 z3_0 z4_0 z5_0 z5_1 y6 → N - i < n → i10005_l1 k n (x14, (i : Int), x4096, x4097, x4102, x4103, x4104, y0, y2, z3_0, z4_0, z5_0, z5_1, y6) kx0 = G i x14 x4096 x4097 x4102 x4103 x4104 y0 y2 z3_0 z4_0 z5_0 z5_1 y6 := by
  intro n
  induction n with
  | zero => intro i x14 x4096 x4097 x4102 x4103 x4104 y0 y2 z3_0 z4_0 z5_0 z5_1 y6 _ _ h0; omega
  | succ n ih =>
    intro i x14 x4096 x4097 x4102 x4103 x4104 y0 y2 z3_0 z4_0 z5_0 z5_1 y6 hi hv hn
    exact h i x14 x4096 x4097 x4102 x4103 x4104 y0 y2 z3_0 z4_0 z5_0 z5_1 y6 (fun w => i10005_l1 k n w kx0) hi hv (fun x14' x4096' x4097' x4102' x4103' x4104' y0' y2' z3_0' z4_0' z5_0' z5_1' y6' hlt hv' => ih (i + 1) x14' x4096' x4097' x4102' x4103' x4104' y0' y2' z3_0' z4_0' z5_0' z5_1' y6' hlt hv' (by omega))
def i11008_s1 {R : Type} (k : Nat) (rec : Int × Int × (List Int) × (List Int) × (List (Int × ((List Int) × Unit))) × Int × Int × (List Int) × (List Int) × Int × Int → Option R) (kx0 : ((List Int) × (List Int) × (List (Int × ((List Int) × Unit))) × Int × Int × (List Int) × Int × Int → Option R)) : Int × Int × (List Int) × (List Int) × (List (Int × ((List Int) × Unit))) × Int × Int × (List Int) × (List Int) × Int × Int → Option R := fun (x14, x15, x4096, x4097, x4100, x4101, x4102, y0, y2, z3_0, z4_0) =>
  (bif (decide (x15 < x14)) then (bif ((decide (0 ≤ x15)) && (decide (x15 < ((y2.length : Nat) : Int)))) then (bif (decide ((Int.toNat x15) < y2.length)) then (bif ((decide (0 ≤ x15)) && (decide (x15 < ((y0.length : Nat) : Int)))) then (bif (decide ((Int.toNat x15) < y0.length)) then (bif ((decide (0 ≤ x15)) && (decide (x15 < ((y0.length : Nat) : Int)))) then (bif (decide ((Int.toNat x15) < y0.length)) then (rec (x14, (IntKind.wrap .i64 (x15 + (1 : Int))), x4096, x4097, x4100, x4101, x4102, (y0.set (Int.toNat x15) (IntKind.wrap .i64 ((y0.getD (Int.toNat x15) (0 : Int)) + (y2.getD (Int.toNat x15) (0 : Int))))), y2, z3_0, z4_0)) else none) else none) else none) else none) else none) else none) else (kx0 (x4096, x4097, x4100, x4101, x4102, y0, z3_0, z4_0)))
def i11008_l1 {R : Type} (k : Nat) : Nat → Int × Int × (List Int) × (List Int) × (List (Int × ((List Int) × Unit))) × Int × Int × (List Int) × (List Int) × Int × Int → ((List Int) × (List Int) × (List (Int × ((List Int) × Unit))) × Int × Int × (List Int) × Int × Int → Option R) → Option R
  | 0, _, _ => none
  | n + 1, v, kx0 => i11008_s1 k (fun w => i11008_l1 k n w kx0) kx0 v
theorem i11008_l1_fix {R : Type} {k : Nat} {kx0 : ((List Int) × (List Int) × (List (Int × ((List Int) × Unit))) × Int × Int × (List Int) × Int × Int → Option R)} (Inv : (Int × Int × (List Int) × (List Int) × (List (Int × ((List Int) × Unit))) × Int × Int × (List Int) × (List Int) × Int × Int) → Prop) (μ : (Int × Int × (List Int) × (List Int) × (List (Int × ((List Int) × Unit))) × Int × Int × (List Int) × (List Int) × Int × Int) → Nat) (G : (Int × Int × (List Int) × (List Int) × (List (Int × ((List Int) × Unit))) × Int × Int × (List Int) × (List Int) × Int × Int) → Option R) (h : ∀ v rec, Inv v → (∀ w, Inv w → μ w < μ v → rec w = G w) → i11008_s1 k rec kx0 v = G v) : ∀ n v, Inv v → μ v < n → i11008_l1 k n v kx0 = G v := loop_fix (S := fun rec v => i11008_s1 k rec kx0 v) (fun _ _ => rfl) Inv μ G h
theorem i11008_l1_for {R : Type} {k : Nat} {kx0 : ((List Int) × (List Int) × (List (Int × ((List Int) × Unit))) × Int × Int × (List Int) × Int × Int → Option R)} (N : Nat) (Inv : Nat → (Int) → ((List Int)) → ((List Int)) → ((List (Int × ((List Int) × Unit)))) → (Int) → (Int) → ((List Int)) → ((List Int)) → (Int) → (Int) → Prop) (G : Nat → (Int) → ((List Int)) → ((List Int)) → ((List (Int × ((List Int) × Unit)))) → (Int) → (Int) → ((List Int)) → ((List Int)) → (Int) → (Int) → Option R) (h : ∀ (i : Nat) (x14 : Int) (x4096 : (List Int)) (x4097 : (List Int)) (x4100 : (List (Int × ((List Int) × Unit)))) (x4101 : Int) (x4102 : Int) (y0 : (List Int)) (y2 : (List Int)) (z3_0 : Int) (z4_0 : Int) (rec : Int × Int × (List Int) × (List Int) × (List (Int × ((List Int) × Unit))) × Int × Int × (List Int) × (List Int) × Int × Int → Option R), i ≤ N → Inv i x14 x4096 x4097 x4100 x4101 x4102 y0 y2 z3_0 z4_0 → (∀ (x14' : Int) (x4096' : (List Int)) (x4097' : (List Int)) (x4100' : (List (Int × ((List Int) × Unit)))) (x4101' : Int) (x4102' : Int) (y0' : (List Int)) (y2' : (List Int)) (z3_0' : Int) (z4_0' : Int), i < N → Inv (i + 1) x14' x4096' x4097' x4100' x4101' x4102' y0' y2' z3_0' z4_0' → rec (x14', ((i : Int) + 1), x4096', x4097', x4100', x4101', x4102', y0', y2', z3_0', z4_0') = G (i + 1) x14' x4096' x4097' x4100' x4101' x4102' y0' y2' z3_0' z4_0') → i11008_s1 k rec kx0 (x14, (i : Int), x4096, x4097, x4100, x4101, x4102, y0, y2, z3_0, z4_0) = G i x14 x4096 x4097 x4100 x4101 x4102 y0 y2 z3_0 z4_0) : ∀ (n i : Nat) (x14 : Int) (x4096 : (List Int)) (x4097 : (List Int)) (x4100 : (List (Int × ((List Int) × Unit)))) (x4101 : Int) (x4102 : Int) (y0 : (List Int)) (y2 : (List Int)) (z3_0 : Int) (z4_0 : Int), i ≤ N → Inv i x14 x4096 x4097 x4100 x4101 x4102 y0 y2 z3_0 z4_0 → N - i < n → i11008_l1 k n (x14, (i : Int), x4096, x4097, x4100, x4101, x4102, y0, y2, z3_0, z4_0) kx0 = G i x14 x4096 x4097 x4100 x4101 x4102 y0 y2 z3_0 z4_0 := by
  intro n
  induction n with
  | zero => intro i x14 x4096 x4097 x4100 x4101 x4102 y0 y2 z3_0 z4_0 _ _ h0; omega
  | succ n ih =>
    intro i x14 x4096 x4097 x4100 x4101 x4102 y0 y2 z3_0 z4_0 hi hv hn
    exact h i x14 x4096 x4097 x4100 x4101 x4102 y0 y2 z3_0 z4_0 (fun w => i11008_l1 k n w kx0) hi hv (fun x14' x4096' x4097' x4100' x4101' x4102' y0' y2' z3_0' z4_0' hlt hv' => ih (i + 1) x14' x4096' x4097' x4100' x4101' x4102' y0' y2' z3_0' z4_0' hlt hv' (by omega))
def i13004_s1 {R : Type} (k : Nat) (rec : Int × Int × (List Int) × (List Int) × (List (Int × ((List Int) × Unit))) × Int × Int × (List Int) × (List Int) × Int × Int → Option R) (kx0 : ((List Int) × (List Int) × (List (Int × ((List Int) × Unit))) × Int × Int × (List Int) × Int × Int → Option R)) : Int × Int × (List Int) × (List Int) × (List (Int × ((List Int) × Unit))) × Int × Int × (List Int) × (List Int) × Int × Int → Option R := fun (x14, x15, x4096, x4097, x4100, x4101, x4102, y0, y2, z3_0, z4_0) =>
  (bif (decide (x15 < x14)) then (bif ((decide (0 ≤ x15)) && (decide (x15 < ((y2.length : Nat) : Int)))) then (bif (decide ((Int.toNat x15) < y2.length)) then (bif ((decide (0 ≤ x15)) && (decide (x15 < ((y0.length : Nat) : Int)))) then (bif (decide ((Int.toNat x15) < y0.length)) then (bif ((decide (0 ≤ x15)) && (decide (x15 < ((y0.length : Nat) : Int)))) then (bif (decide ((Int.toNat x15) < y0.length)) then (rec (x14, (IntKind.wrap .i64 (x15 + (1 : Int))), x4096, x4097, x4100, x4101, x4102, (y0.set (Int.toNat x15) (IntKind.wrap .i64 ((y0.getD (Int.toNat x15) (0 : Int)) + (y2.getD (Int.toNat x15) (0 : Int))))), y2, z3_0, z4_0)) else none) else none) else none) else none) else none) else none) else (kx0 (x4096, x4097, x4100, x4101, x4102, y0, z3_0, z4_0)))
def i13004_l1 {R : Type} (k : Nat) : Nat → Int × Int × (List Int) × (List Int) × (List (Int × ((List Int) × Unit))) × Int × Int × (List Int) × (List Int) × Int × Int → ((List Int) × (List Int) × (List (Int × ((List Int) × Unit))) × Int × Int × (List Int) × Int × Int → Option R) → Option R
  | 0, _, _ => none
  | n + 1, v, kx0 => i13004_s1 k (fun w => i13004_l1 k n w kx0) kx0 v
theorem i13004_l1_fix {R : Type} {k : Nat} {kx0 : ((List Int) × (List Int) × (List (Int × ((List Int) × Unit))) × Int × Int × (List Int) × Int × Int → Option R)} (Inv : (Int × Int × (List Int) × (List Int) × (List (Int × ((List Int) × Unit))) × Int × Int × (List Int) × (List Int) × Int × Int) → Prop) (μ : (Int × Int × (List Int) × (List Int) × (List (Int × ((List Int) × Unit))) × Int × Int × (List Int) × (List Int) × Int × Int) → Nat) (G : (Int × Int × (List Int) × (List Int) × (List (Int × ((List Int) × Unit))) × Int × Int × (List Int) × (List Int) × Int × Int) → Option R) (h : ∀ v rec, Inv v → (∀ w, Inv w → μ w < μ v → rec w = G w) → i13004_s1 k rec kx0 v = G v) : ∀ n v, Inv v → μ v < n → i13004_l1 k n v kx0 = G v := loop_fix (S := fun rec v => i13004_s1 k rec kx0 v) (fun _ _ => rfl) Inv μ G h
theorem i13004_l1_for {R : Type} {k : Nat} {kx0 : ((List Int) × (List Int) × (List (Int × ((List Int) × Unit))) × Int × Int × (List Int) × Int × Int → Option R)} (N : Nat) (Inv : Nat → (Int) → ((List Int)) → ((List Int)) → ((List (Int × ((List Int) × Unit)))) → (Int) → (Int) → ((List Int)) → ((List Int)) → (Int) → (Int) → Prop) (G : Nat → (Int) → ((List Int)) → ((List Int)) → ((List (Int × ((List Int) × Unit)))) → (Int) → (Int) → ((List Int)) → ((List Int)) → (Int) → (Int) → Option R) (h : ∀ (i : Nat) (x14 : Int) (x4096 : (List Int)) (x4097 : (List Int)) (x4100 : (List (Int × ((List Int) × Unit)))) (x4101 : Int) (x4102 : Int) (y0 : (List Int)) (y2 : (List Int)) (z3_0 : Int) (z4_0 : Int) (rec : Int × Int × (List Int) × (List Int) × (List (Int × ((List Int) × Unit))) × Int × Int × (List Int) × (List Int) × Int × Int → Option R), i ≤ N → Inv i x14 x4096 x4097 x4100 x4101 x4102 y0 y2 z3_0 z4_0 → (∀ (x14' : Int) (x4096' : (List Int)) (x4097' : (List Int)) (x4100' : (List (Int × ((List Int) × Unit)))) (x4101' : Int) (x4102' : Int) (y0' : (List Int)) (y2' : (List Int)) (z3_0' : Int) (z4_0' : Int), i < N → Inv (i + 1) x14' x4096' x4097' x4100' x4101' x4102' y0' y2' z3_0' z4_0' → rec (x14', ((i : Int) + 1), x4096', x4097', x4100', x4101', x4102', y0', y2', z3_0', z4_0') = G (i + 1) x14' x4096' x4097' x4100' x4101' x4102' y0' y2' z3_0' z4_0') → i13004_s1 k rec kx0 (x14, (i : Int), x4096, x4097, x4100, x4101, x4102, y0, y2, z3_0, z4_0) = G i x14 x4096 x4097 x4100 x4101 x4102 y0 y2 z3_0 z4_0) : ∀ (n i : Nat) (x14 : Int) (x4096 : (List Int)) (x4097 : (List Int)) (x4100 : (List (Int × ((List Int) × Unit)))) (x4101 : Int) (x4102 : Int) (y0 : (List Int)) (y2 : (List Int)) (z3_0 : Int) (z4_0 : Int), i ≤ N → Inv i x14 x4096 x4097 x4100 x4101 x4102 y0 y2 z3_0 z4_0 → N - i < n → i13004_l1 k n (x14, (i : Int), x4096, x4097, x4100, x4101, x4102, y0, y2, z3_0, z4_0) kx0 = G i x14 x4096 x4097 x4100 x4101 x4102 y0 y2 z3_0 z4_0 := by
  intro n
  induction n with
  | zero => intro i x14 x4096 x4097 x4100 x4101 x4102 y0 y2 z3_0 z4_0 _ _ h0; omega
  | succ n ih =>
    intro i x14 x4096 x4097 x4100 x4101 x4102 y0 y2 z3_0 z4_0 hi hv hn
    exact h i x14 x4096 x4097 x4100 x4101 x4102 y0 y2 z3_0 z4_0 (fun w => i13004_l1 k n w kx0) hi hv (fun x14' x4096' x4097' x4100' x4101' x4102' y0' y2' z3_0' z4_0' hlt hv' => ih (i + 1) x14' x4096' x4097' x4100' x4101' x4102' y0' y2' z3_0' z4_0' hlt hv' (by omega))
def i15004_s1 {R : Type} (k : Nat) (rec : Int × Int × (List Int) × (List Int) × (List (Int × ((List Int) × Unit))) × Int × Int × (List Int) × (List Int) × Int × Int → Option R) (kx0 : ((List Int) × (List Int) × (List (Int × ((List Int) × Unit))) × Int × Int × (List Int) × Int × Int → Option R)) : Int × Int × (List Int) × (List Int) × (List (Int × ((List Int) × Unit))) × Int × Int × (List Int) × (List Int) × Int × Int → Option R := fun (x14, x15, x4096, x4097, x4100, x4101, x4102, y0, y2, z3_0, z4_0) =>
  (bif (decide (x15 < x14)) then (bif ((decide (0 ≤ x15)) && (decide (x15 < ((y2.length : Nat) : Int)))) then (bif (decide ((Int.toNat x15) < y2.length)) then (bif ((decide (0 ≤ x15)) && (decide (x15 < ((y0.length : Nat) : Int)))) then (bif (decide ((Int.toNat x15) < y0.length)) then (bif ((decide (0 ≤ x15)) && (decide (x15 < ((y0.length : Nat) : Int)))) then (bif (decide ((Int.toNat x15) < y0.length)) then (rec (x14, (IntKind.wrap .i64 (x15 + (1 : Int))), x4096, x4097, x4100, x4101, x4102, (y0.set (Int.toNat x15) (IntKind.wrap .i64 ((y0.getD (Int.toNat x15) (0 : Int)) + (y2.getD (Int.toNat x15) (0 : Int))))), y2, z3_0, z4_0)) else none) else none) else none) else none) else none) else none) else (kx0 (x4096, x4097, x4100, x4101, x4102, y0, z3_0, z4_0)))
def i15004_l1 {R : Type} (k : Nat) : Nat → Int × Int × (List Int) × (List Int) × (List (Int × ((List Int) × Unit))) × Int × Int × (List Int) × (List Int) × Int × Int → ((List Int) × (List Int) × (List (Int × ((List Int) × Unit))) × Int × Int × (List Int) × Int × Int → Option R) → Option R
  | 0, _, _ => none
  | n + 1, v, kx0 => i15004_s1 k (fun w => i15004_l1 k n w kx0) kx0 v
theorem i15004_l1_fix {R : Type} {k : Nat} {kx0 : ((List Int) × (List Int) × (List (Int × ((List Int) × Unit))) × Int × Int × (List Int) × Int × Int → Option R)} (Inv : (Int × Int × (List Int) × (List Int) × (List (Int × ((List Int) × Unit))) × Int × Int × (List Int) × (List Int) × Int × Int) → Prop) (μ : (Int × Int × (List Int) × (List Int) × (List (Int × ((List Int) × Unit))) × Int × Int × (List Int) × (List Int) × Int × Int) → Nat) (G : (Int × Int × (List Int) × (List Int) × (List (Int × ((List Int) × Unit))) × Int × Int × (List Int) × (List Int) × Int × Int) → Option R) (h : ∀ v rec, Inv v → (∀ w, Inv w → μ w < μ v → rec w = G w) → i15004_s1 k rec kx0 v = G v) : ∀ n v, Inv v → μ v < n → i15004_l1 k n v kx0 = G v := loop_fix (S := fun rec v => i15004_s1 k rec kx0 v) (fun _ _ => rfl) Inv μ G h
theorem i15004_l1_for {R : Type} {k : Nat} {kx0 : ((List Int) × (List Int) × (List (Int × ((List Int) × Unit))) × Int × Int × (List Int) × Int × Int → Option R)} (N : Nat) (Inv : Nat → (Int) → ((List Int)) → ((List Int)) → ((List (Int × ((List Int) × Unit)))) → (Int) → (Int) → ((List Int)) → ((List Int)) → (Int) → (Int) → Prop) (G : Nat → (Int) → ((List Int)) → ((List Int)) → ((List (Int × ((List Int) × Unit)))) → (Int) → (Int) → ((List Int)) → ((List Int)) → (Int) → (Int) → Option R) (h : ∀ (i : Nat) (x14 : Int) (x4096 : (List Int)) (x4097 : (List Int)) (x4100 : (List (Int × ((List Int) × Unit)))) (x4101 : Int) (x4102 : Int) (y0 : (List Int)) (y2 : (List Int)) (z3_0 : Int) (z4_0 : Int) (rec : Int × Int × (List Int) × (List Int) × (List (Int × ((List Int) × Unit))) × Int × Int × (List Int) × (List Int) × Int × Int → Option R), i ≤ N → Inv i x14 x4096 x4097 x4100 x4101 x4102 y0 y2 z3_0 z4_0 → (∀ (x14' : Int) (x4096' : (List Int)) (x4097' : (List Int)) (x4100' : (List (Int × ((List Int) × Unit)))) (x4101' : Int) (x4102' : Int) (y0' : (List Int)) (y2' : (List Int)) (z3_0' : Int) (z4_0' : Int), i < N → Inv (i + 1) x14' x4096' x4097' x4100' x4101' x4102' y0' y2' z3_0' z4_0' → rec (x14', ((i : Int) + 1), x4096', x4097', x4100', x4101', x4102', y0', y2', z3_0', z4_0') = G (i + 1) x14' x4096' x4097' x4100' x4101' x4102' y0' y2' z3_0' z4_0') → i15004_s1 k rec kx0 (x14, (i : Int), x4096, x4097, x4100, x4101, x4102, y0, y2, z3_0, z4_0) = G i x14 x4096 x4097 x4100 x4101 x4102 y0 y2 z3_0 z4_0) : ∀ (n i : Nat) (x14 : Int) (x4096 : (List Int)) (x4097 : (List Int)) (x4100 : (List (Int × ((List Int) × Unit)))) (x4101 : Int) (x4102 : Int) (y0 : (List Int)) (y2 : (List Int)) (z3_0 : Int) (z4_0 : Int), i ≤ N → Inv i x14 x4096 x4097 x4100 x4101 x4102 y0 y2 z3_0 z4_0 → N - i < n → i15004_l1 k n (x14, (i : Int), x4096, x4097, x4100, x4101, x4102, y0, y2, z3_0, z4_0) kx0 = G i x14 x4096 x4097 x4100 x4101 x4102 y0 y2 z3_0 z4_0 := by
  intro n
  induction n with
  | zero => intro i x14 x4096 x4097 x4100 x4101 x4102 y0 y2 z3_0 z4_0 _ _ h0; omega
  | succ n ih =>
    intro i x14 x4096 x4097 x4100 x4101 x4102 y0 y2 z3_0 z4_0 hi hv hn
    exact h i x14 x4096 x4097 x4100 x4101 x4102 y0 y2 z3_0 z4_0 (fun w => i15004_l1 k n w kx0) hi hv (fun x14' x4096' x4097' x4100' x4101' x4102' y0' y2' z3_0' z4_0' hlt hv' => ih (i + 1) x14' x4096' x4097' x4100' x4101' x4102' y0' y2' z3_0' z4_0' hlt hv' (by omega))
def i8005_s1 {R : Type} (k : Nat) (rec : Int × Int × (List Int) × (List Int) × (List (Int × ((List Int) × Unit))) × Int × Int × (List Int) × (List Int) × Int × Int → Option R) (kx0 : ((List Int) × (List Int) × (List (Int × ((List Int) × Unit))) × Int × Int × (List Int) × Int × Int → Option R)) : Int × Int × (List Int) × (List Int) × (List (Int × ((List Int) × Unit))) × Int × Int × (List Int) × (List Int) × Int × Int → Option R := fun (x14, x15, x4096, x4097, x4100, x4101, x4102, y0, y2, z3_0, z4_0) =>
  (bif (decide (x15 < x14)) then (bif ((decide (0 ≤ x15)) && (decide (x15 < ((y2.length : Nat) : Int)))) then (bif (decide ((Int.toNat x15) < y2.length)) then (bif ((decide (0 ≤ x15)) && (decide (x15 < ((y0.length : Nat) : Int)))) then (bif (decide ((Int.toNat x15) < y0.length)) then (bif ((decide (0 ≤ x15)) && (decide (x15 < ((y0.length : Nat) : Int)))) then (bif (decide ((Int.toNat x15) < y0.length)) then (rec (x14, (IntKind.wrap .i64 (x15 + (1 : Int))), x4096, x4097, x4100, x4101, x4102, (y0.set (Int.toNat x15) (IntKind.wrap .i64 ((y0.getD (Int.toNat x15) (0 : Int)) + (y2.getD (Int.toNat x15) (0 : Int))))), y2, z3_0, z4_0)) else none) else none) else none) else none) else none) else none) else (kx0 (x4096, x4097, x4100, x4101, x4102, y0, z3_0, z4_0)))
def i8005_l1 {R : Type} (k : Nat) : Nat → Int × Int × (List Int) × (List Int) × (List (Int × ((List Int) × Unit))) × Int × Int × (List Int) × (List Int) × Int × Int → ((List Int) × (List Int) × (List (Int × ((List Int) × Unit))) × Int × Int × (List Int) × Int × Int → Option R) → Option R
  | 0, _, _ => none
  | n + 1, v, kx0 => i8005_s1 k (fun w => i8005_l1 k n w kx0) kx0 v
theorem i8005_l1_fix {R : Type} {k : Nat} {kx0 : ((List Int) × (List Int) × (List (Int × ((List Int) × Unit))) × Int × Int × (List Int) × Int × Int → Option R)} (Inv : (Int × Int × (List Int) × (List Int) × (List (Int × ((List Int) × Unit))) × Int × Int × (List Int) × (List Int) × Int × Int) → Prop) (μ : (Int × Int × (List Int) × (List Int) × (List (Int × ((List Int) × Unit))) × Int × Int × (List Int) × (List Int) × Int × Int) → Nat) (G : (Int × Int × (List Int) × (List Int) × (List (Int × ((List Int) × Unit))) × Int × Int × (List Int) × (List Int) × Int × Int) → Option R) (h : ∀ v rec, Inv v → (∀ w, Inv w → μ w < μ v → rec w = G w) → i8005_s1 k rec kx0 v = G v) : ∀ n v, Inv v → μ v < n → i8005_l1 k n v kx0 = G v := loop_fix (S := fun rec v => i8005_s1 k rec kx0 v) (fun _ _ => rfl) Inv μ G h
theorem i8005_l1_for {R : Type} {k : Nat} {kx0 : ((List Int) × (List Int) × (List (Int × ((List Int) × Unit))) × Int × Int × (List Int) × Int × Int → Option R)} (N : Nat) (Inv : Nat → (Int) → ((List Int)) → ((List Int)) → ((List (Int × ((List Int) × Unit)))) → (Int) → (Int) → ((List Int)) → ((List Int)) → (Int) → (Int) → Prop) (G : Nat → (Int) → ((List Int)) → ((List Int)) → ((List (Int × ((List Int) × Unit)))) → (Int) → (Int) → ((List Int)) → ((List Int)) → (Int) → (Int) → Option R) (h : ∀ (i : Nat) (x14 : Int) (x4096 : (List Int)) (x4097 : (List Int)) (x4100 : (List (Int × ((List Int) × Unit)))) (x4101 : Int) (x4102 : Int) (y0 : (List Int)) (y2 : (List Int)) (z3_0 : Int) (z4_0 : Int) (rec : Int × Int × (List Int) × (List Int) × (List (Int × ((List Int) × Unit))) × Int × Int × (List Int) × (List Int) × Int × Int → Option R), i ≤ N → Inv i x14 x4096 x4097 x4100 x4101 x4102 y0 y2 z3_0 z4_0 → (∀ (x14' : Int) (x4096' : (List Int)) (x4097' : (List Int)) (x4100' : (List (Int × ((List Int) × Unit)))) (x4101' : Int) (x4102' : Int) (y0' : (List Int)) (y2' : (List Int)) (z3_0' : Int) (z4_0' : Int), i < N → Inv (i + 1) x14' x4096' x4097' x4100' x4101' x4102' y0' y2' z3_0' z4_0' → rec (x14', ((i : Int) + 1), x4096', x4097', x4100', x4101', x4102', y0', y2', z3_0', z4_0') = G (i + 1) x14' x4096' x4097' x4100' x4101' x4102' y0' y2' z3_0' z4_0') → i8005_s1 k rec kx0 (x14, (i : Int), x4096, x4097, x4100, x4101, x4102, y0, y2, z3_0, z4_0) = G i x14 x4096 x4097 x4100 x4101 x4102 y0 y2 z3_0 z4_0) : ∀ (n i : Nat) (x14 : Int) (x4096 : (List Int)) (x4097 : (List Int)) (x4100 : (List (Int × ((List Int) × Unit)))) (x4101 : Int) (x4102 : Int) (y0 : (List Int)) (y2 : (List Int)) (z3_0 : Int) (z4_0 : Int), i ≤ N → Inv i x14 x4096 x4097 x4100 x4101 x4102 y0 y2 z3_0 z4_0 → N - i < n → i8005_l1 k n (x14, (i : Int), x4096, x4097, x4100, x4101, x4102, y0, y2, z3_0, z4_0) kx0 = G i x14 x4096 x4097 x4100 x4101 x4102 y0 y2 z3_0 z4_0 := by
  intro n
  induction n with
  | zero => intro i x14 x4096 x4097 x4100 x4101 x4102 y0 y2 z3_0 z4_0 _ _ h0; omega
  | succ n ih =>
    intro i x14 x4096 x4097 x4100 x4101 x4102 y0 y2 z3_0 z4_0 hi hv hn
    exact h i x14 x4096 x4097 x4100 x4101 x4102 y0 y2 z3_0 z4_0 (fun w => i8005_l1 k n w kx0) hi hv (fun x14' x4096' x4097' x4100' x4101' x4102' y0' y2' z3_0' z4_0' hlt hv' => ih (i + 1) x14' x4096' x4097' x4100' x4101' x4102' y0' y2' z3_0' z4_0' hlt hv' (by omega))
def s5 {R : Type} (k : Nat) (rec : (List Int) × (List Int) × (List (Int × ((List Int) × Unit))) × Int × Int × (List Int) × Int × Int → Option R) (kx0 : ((List Int) → Option R)) : (List Int) × (List Int) × (List (Int × ((List Int) × Unit))) × Int × Int × (List Int) × Int × Int → Option R := fun (x1, x2, x21, x22, x23, y0, z2_0, z3_0) =>
  (bif (decide (x23 < x22)) then (bif ((decide (0 ≤ x23)) && (decide (x23 < ((x21.length : Nat) : Int)))) then ((impl_highWinners.f k ((x21.getD (Int.toNat x23) ((0 : Int), (([] : List Int), ()))).2.1) x1).bind fun r1 => ((impl_lowWinners.f k ((x21.getD (Int.toNat x23) ((0 : Int), (([] : List Int), ()))).2.1) x2).bind fun r2 => (bif (decide (((r1.1.1.length : Nat) : Int) > (0 : Int))) then (bif (decide (((r2.1.1.length : Nat) : Int) > (0 : Int))) then (bif (!(decide ((2 : Int) = 0))) then ((impl_splitChips.f k (IntKind.wrap .i64 (Int.tdiv ((x21.getD (Int.toNat x23) ((0 : Int), (([] : List Int), ()))).1) (2 : Int))) r2.1.1 z2_0 z3_0).bind fun r3 => (i10005_l1 k k (((r3.1.1.length : Nat) : Int), (0 : Int), x1, x2, x21, x22, x23, y0, r3.1.1, z2_0, z3_0, (x21.getD (Int.toNat x23) ((0 : Int), (([] : List Int), ()))).1, (x21.getD (Int.toNat x23) ((0 : Int), (([] : List Int), ()))).2.1, r1.1.1) (fun (o4, o5, o6, o7, o8, o9, o10, o11, o12, o13, o14) => (bif (!(decide ((2 : Int) = 0))) then ((impl_splitChips.f k (IntKind.wrap .i64 (o12 - (IntKind.wrap .i64 (Int.tdiv o12 (2 : Int))))) o14 o10 o11).bind fun r15 => (i11008_l1 k k (((r15.1.1.length : Nat) : Int), (0 : Int), o4, o5, o6, o7, o8, o9, r15.1.1, o10, o11) (fun (o16, o17, o18, o19, o20, o21, o22, o23) => (rec (o16, o17, o18, o19, (IntKind.wrap .i64 (o20 + (1 : Int))), o21, o22, o23))))) else none)))) else none) else (bif (decide (((r1.1.1.length : Nat) : Int) > (0 : Int))) then ((impl_splitChips.f k ((x21.getD (Int.toNat x23) ((0 : Int), (([] : List Int), ()))).1) r1.1.1 z2_0 z3_0).bind fun r24 => (i13004_l1 k k (((r24.1.1.length : Nat) : Int), (0 : Int), x1, x2, x21, x22, x23, y0, r24.1.1, z2_0, z3_0) (fun (o25, o26, o27, o28, o29, o30, o31, o32) => (rec (o25, o26, o27, o28, (IntKind.wrap .i64 (o29 + (1 : Int))), o30, o31, o32))))) else (bif (decide (((r2.1.1.length : Nat) : Int) > (0 : Int))) then ((impl_splitChips.f k ((x21.getD (Int.toNat x23) ((0 : Int), (([] : List Int), ()))).1) r2.1.1 z2_0 z3_0).bind fun r33 => (i15004_l1 k k (((r33.1.1.length : Nat) : Int), (0 : Int), x1, x2, x21, x22, x23, y0, r33.1.1, z2_0, z3_0) (fun (o34, o35, o36, o37, o38, o39, o40, o41) => (rec (o34, o35, o36, o37, (IntKind.wrap .i64 (o38 + (1 : Int))), o39, o40, o41))))) else ((impl_splitChips.f k ((x21.getD (Int.toNat x23) ((0 : Int), (([] : List Int), ()))).1) ((x21.getD (Int.toNat x23) ((0 : Int), (([] : List Int), ()))).2.1) z2_0 z3_0).bind fun r42 => (i8005_l1 k k (((r42.1.1.length : Nat) : Int), (0 : Int), x1, x2, x21, x22, x23, y0, r42.1.1, z2_0, z3_0) (fun (o43, o44, o45, o46, o47, o48, o49, o50) => (rec (o43, o44, o45, o46, (IntKind.wrap .i64 (o47 + (1 : Int))), o48, o49, o50)))))))) else (bif (decide (((r1.1.1.length : Nat) : Int) > (0 : Int))) then ((impl_splitChips.f k ((x21.getD (Int.toNat x23) ((0 : Int), (([] : List Int), ()))).1) r1.1.1 z2_0 z3_0).bind fun r51 => (i13004_l1 k k (((r51.1.1.length : Nat) : Int), (0 : Int), x1, x2, x21, x22, x23, y0, r51.1.1, z2_0, z3_0) (fun (o52, o53, o54, o55, o56, o57, o58, o59) => (rec (o52, o53, o54, o55, (IntKind.wrap .i64 (o56 + (1 : Int))), o57, o58, o59))))) else (bif (decide (((r2.1.1.length : Nat) : Int) > (0 : Int))) then ((impl_splitChips.f k ((x21.getD (Int.toNat x23) ((0 : Int), (([] : List Int), ()))).1) r2.1.1 z2_0 z3_0).bind fun r60 => (i15004_l1 k k (((r60.1.1.length : Nat) : Int), (0 : Int), x1, x2, x21, x22, x23, y0, r60.1.1, z2_0, z3_0) (fun (o61, o62, o63, o64, o65, o66, o67, o68) => (rec (o61, o62, o63, o64, (IntKind.wrap .i64 (o65 + (1 : Int))), o66, o67, o68))))) else ((impl_splitChips.f k ((x21.getD (Int.toNat x23) ((0 : Int), (([] : List Int), ()))).1) ((x21.getD (Int.toNat x23) ((0 : Int), (([] : List Int), ()))).2.1) z2_0 z3_0).bind fun r69 => (i8005_l1 k k (((r69.1.1.length : Nat) : Int), (0 : Int), x1, x2, x21, x22, x23, y0, r69.1.1, z2_0, z3_0) (fun (o70, o71, o72, o73, o74, o75, o76, o77) => (rec (o70, o71, o72, o73, (IntKind.wrap .i64 (o74 + (1 : Int))), o75, o76, o77)))))))))) else none) else (kx0 y0))
def l5 {R : Type} (k : Nat) : Nat → (List Int) × (List Int) × (List (Int × ((List Int) × Unit))) × Int × Int × (List Int) × Int × Int → ((List Int) → Option R) → Option R
  | 0, _, _ => none
  | n + 1, v, kx0 => s5 k (fun w => l5 k n w kx0) kx0 v
theorem l5_fix {R : Type} {k : Nat} {kx0 : ((List Int) → Option R)} (Inv : ((List Int) × (List Int) × (List (Int × ((List Int) × Unit))) × Int × Int × (List Int) × Int × Int) → Prop) (μ : ((List Int) × (List Int) × (List (Int × ((List Int) × Unit))) × Int × Int × (List Int) × Int × Int) → Nat) (G : ((List Int) × (List Int) × (List (Int × ((List Int) × Unit))) × Int × Int × (List Int) × Int × Int) → Option R) (h : ∀ v rec, Inv v → (∀ w, Inv w → μ w < μ v → rec w = G w) → s5 k rec kx0 v = G v) : ∀ n v, Inv v → μ v < n → l5 k n v kx0 = G v := loop_fix (S := fun rec v => s5 k rec kx0 v) (fun _ _ => rfl) Inv μ G h
def f (k : Nat) (a0 : (List (Int × ((List Int) × Unit)))) (a1 : (List Int)) (a2 : (List Int)) (a3 : Int) : (Option (((List Int) × Unit) × (Unit))) :=
  (bif ((decide (0 ≤ ((a1.length : Nat) : Int))) && ((decide (((a1.length : Nat) : Int) ≤ ((a1.length : Nat) : Int))) && (decide (((a1.length : Nat) : Int) * ((8 : Nat) : Int) ≤ (AM.maxBytes : Int))))) then (l5 k k (a1, a2, a0, ((a0.length : Nat) : Int), (0 : Int), (List.replicate (Int.toNat ((a1.length : Nat) : Int)) (0 : Int)), ((a1.length : Nat) : Int), a3) (fun o78 => (some ((o78, ()), ())))) else none)
end impl_awarded

/-! ### loop.example/g00910/impl.AwardPots -/
namespace impl_AwardPots
def s7 {R : Type} (k : Nat) (rec : (List (Int × ((List Int) × Unit))) × (List Int) × (List Int) × Int × Int × (List (Int × ((List Int) × Unit))) × Int × Int → Option R) (kx1 : ((List (Int × ((List Int) × Unit))) × (List Int) × (List Int) × Int × Int → Option R)) (kr : ((List (Int × ((List Int) × Unit))) × (List Int) × (List Int) × Int × Int × Int → Option R)) : (List (Int × ((List Int) × Unit))) × (List Int) × (List Int) × Int × Int × (List (Int × ((List Int) × Unit))) × Int × Int → Option R := fun (x0, x1, x2, x3, x10, x23, x24, x25) =>
  (bif (decide (x25 < x24)) then (bif ((decide (0 ≤ x25)) && (decide (x25 < ((x23.length : Nat) : Int)))) then ((impl_within.f k ((x23.getD (Int.toNat x25) ((0 : Int), (([] : List Int), ()))).1) (0 : Int) (600000 : Int)).bind fun r2 => (bif (!r2.1.1) then (kr (x0, x1, x2, x3, (1 : Int), x10)) else ((impl_areWinners.f k ((x23.getD (Int.toNat x25) ((0 : Int), (([] : List Int), ()))).2.1) x10).bind fun r3 => (bif (!r3.1.1) then (kr (x0, x1, x2, x3, (1 : Int), x10)) else (rec (x0, x1, x2, x3, x10, x23, x24, (IntKind.wrap .i64 (x25 + (1 : Int))))))))) else none) else (kx1 (x0, x1, x2, x3, x10)))
def l7 {R : Type} (k : Nat) : Nat → (List (Int × ((List Int) × Unit))) × (List Int) × (List Int) × Int × Int × (List (Int × ((List Int) × Unit))) × Int × Int → ((List (Int × ((List Int) × Unit))) × (List Int) × (List Int) × Int × Int → Option R) → ((List (Int × ((List Int) × Unit))) × (List Int) × (List Int) × Int × Int × Int → Option R) → Option R
  | 0, _, _, _ => none
  | n + 1, v, kx1, kr => s7 k (fun w => l7 k n w kx1 kr) kx1 kr v
theorem l7_fix {R : Type} {k : Nat} {kx1 : ((List (Int × ((List Int) × Unit))) × (List Int) × (List Int) × Int × Int → Option R)} {kr : ((List (Int × ((List Int) × Unit))) × (List Int) × (List Int) × Int × Int × Int → Option R)} (Inv : ((List (Int × ((List Int) × Unit))) × (List Int) × (List Int) × Int × Int × (List (Int × ((List Int) × Unit))) × Int × Int) → Prop) (μ : ((List (Int × ((List Int) × Unit))) × (List Int) × (List Int) × Int × Int × (List (Int × ((List Int) × Unit))) × Int × Int) → Nat) (G : ((List (Int × ((List Int) × Unit))) × (List Int) × (List Int) × Int × Int × (List (Int × ((List Int) × Unit))) × Int × Int) → Option R) (h : ∀ v rec, Inv v → (∀ w, Inv w → μ w < μ v → rec w = G w) → s7 k rec kx1 kr v = G v) : ∀ n v, Inv v → μ v < n → l7 k n v kx1 kr = G v := loop_fix (S := fun rec v => s7 k rec kx1 kr v) (fun _ _ => rfl) Inv μ G h
theorem l7_for {R : Type} {k : Nat} {kx1 : ((List (Int × ((List Int) × Unit))) × (List Int) × (List Int) × Int × Int → Option R)} {kr : ((List (Int × ((List Int) × Unit))) × (List Int) × (List Int) × Int × Int × Int → Option R)} (N : Nat) (Inv : Nat → ((List (Int × ((List Int) × Unit)))) → ((List Int)) → ((List Int)) → (Int) → (Int) → ((List (Int × ((List Int) × Unit)))) → (Int) → Prop) (G : Nat → ((List (Int × ((List Int) × Unit)))) → ((List Int)) → ((List Int)) → (Int) → (Int) → ((List (Int × ((List Int) × Unit)))) → (Int) → Option R) (h : ∀ (i : Nat) (x0 : (List (Int × ((List Int) × Unit)))) (x1 : (List Int)) (x2 : (List Int)) (x3 : Int) (x10 : Int) (x23 : (List (Int × ((List Int) × Unit)))) (x24 : Int) (rec : (List (Int × ((List Int) × Unit))) × (List Int) × (List Int) × Int × Int × (List (Int × ((List Int) × Unit))) × Int × Int → Option R), i ≤ N → Inv i x0 x1 x2 x3 x10 x23 x24 → (∀ (x0' : (List (Int × ((List Int) × Unit)))) (x1' : (List Int)) (x2' : (List Int)) (x3' : Int) (x10' : Int) (x23' : (List (Int × ((List Int) × Unit)))) (x24' : Int), i < N → Inv (i + 1) x0' x1' x2' x3' x10' x23' x24' → rec (x0', x1', x2', x3', x10', x23', x24', ((i : Int) + 1)) = G (i + 1) x0' x1' x2' x3' x10' x23' x24') → s7 k rec kx1 kr (x0, x1, x2, x3, x10, x23, x24, (i : Int)) = G i x0 x1 x2 x3 x10 x23 x24) : ∀ (n i : Nat) (x0 : (List (Int × ((List Int) × Unit)))) (x1 : (List Int)) (x2 : (List Int)) (x3 : Int) (x10 : Int) (x23 : (List (Int × ((List Int) × Unit)))) (x24 : Int), i ≤ N → Inv i x0 x1 x2 x3 x10 x23 x24 → N - i < n → l7 k n (x0, x1, x2, x3, x10, x23, x24, (i : Int)) kx1 kr = G i x0 x1 x2 x3 x10 x23 x24 := by
  intro n
  induction n with
  | zero => intro i x0 x1 x2 x3 x10 x23 x24 _ _ h0; omega
  | succ n ih =>
    intro i x0 x1 x2 x3 x10 x23 x24 hi hv hn
    exact h i x0 x1 x2 x3 x10 x23 x24 (fun w => l7 k n w kx1 kr) hi hv (fun x0' x1' x2' x3' x10' x23' x24' hlt hv' => ih (i + 1) x0' x1' x2' x3' x10' x23' x24' hlt hv' (by omega))
def f (k : Nat) (a0 : (List (Int × ((List Int) × Unit)))) (a1 : (List Int)) (a2 : (List Int)) (a3 : Int) : (Option (((List Int) × Int × Unit) × (Unit))) :=
  (bif (decide (((a0.length : Nat) : Int) > (6 : Int))) then (some ((([] : List Int), ((3 : Int), ())), ())) else ((impl_within.f k ((a1.length : Nat) : Int) (2 : Int) (6 : Int)).bind fun r1 => (bif (!r1.1.1) then (some ((([] : List Int), ((2 : Int), ())), ())) else (l7 k k (a0, a1, a2, a3, ((a1.length : Nat) : Int), a0, ((a0.length : Nat) : Int), (0 : Int)) (fun (o4, o5, o6, o7, o8) => ((impl_within.f k o7 (0 : Int) (IntKind.wrap .i64 (o8 - (1 : Int)))).bind fun r9 => (bif (!r9.1.1) then (some ((([] : List Int), ((2 : Int), ())), ())) else (bif (((o6.length : Nat) : Int) != ((o5.length : Nat) : Int)) then (some ((([] : List Int), ((2 : Int), ())), ())) else ((impl_areValues.f k o5).bind fun r10 => (bif (!r10.1.1) then (some ((([] : List Int), ((2 : Int), ())), ())) else ((impl_areValues.f k o6).bind fun r11 => (bif (!r11.1.1) then (some ((([] : List Int), ((2 : Int), ())), ())) else ((impl_awarded.f k o4 o5 o6 o7).bind fun r12 => (some ((r12.1.1, ((0 : Int), ())), ()))))))))))) (fun (o13, o14, o15, o16, o17, o18) => (some ((([] : List Int), (o17, ())), ())))))))
end impl_AwardPots

/-! ### loop.example/g00910/impl.AwardPot -/
namespace impl_AwardPot
def f (k : Nat) (a0 : (Int × ((List Int) × Unit))) (a1 : (List Int)) (a2 : (List Int)) (a3 : Int) : (Option (((List Int) × Int × Unit) × (Unit))) :=
  ((impl_AwardPots.f k ([(a0.1, (a0.2.1, ()))] : List (Int × ((List Int) × Unit))) a1 a2 a3).bind fun r1 => (some ((r1.1.1, (r1.1.2.1, ())), ())))
end impl_AwardPot

/-! ### loop.example/g00910/laws.eqPot -/
namespace laws_eqPot
def f (k : Nat) (a0 : (Int × ((List Int) × Unit))) (a1 : (Int × ((List Int) × Unit))) : (Option ((Bool × Unit) × (Unit))) :=
  (bif (a0.1 != a1.1) then (some ((false, ()), ())) else ((laws_eqInt64S.f k a0.2.1 a1.2.1).bind fun r1 => (bif (!r1.1.1) then (some ((false, ()), ())) else (some ((true, ()), ())))))
end laws_eqPot

/-! ### loop.example/g00910/laws.FnExactAwardPot -/
namespace laws_FnExactAwardPot
def f (k : Nat) (a0 : (Int × ((List Int) × Unit))) (a1 : (List Int)) (a2 : (List Int)) (a3 : Int) : (Option ((Bool × Unit) × (Unit))) :=
  (bif (decide (((a1.length : Nat) : Int) > (1048576 : Int))) then (some ((true, ()), ())) else (bif (decide (((a2.length : Nat) : Int) > (1048576 : Int))) then (some ((true, ()), ())) else ((laws_szPot.f k (a0.1, (a0.2.1, ())) (1048576 : Int)).bind fun r1 => (bif (decide (r1.1.1 < (0 : Int))) then (some ((true, ()), ())) else ((laws_toPot.f k (a0.1, (a0.2.1, ()))).bind fun r2 => ((laws_toInt64S.f k a1).bind fun r3 => ((laws_toInt64S.f k a2).bind fun r4 => ((spec_AwardPot.f k (r2.1.1.1, (r2.1.1.2.1, ())) r3.1.1 r4.1.1 a3).bind fun r5 => ((laws_toPot.f k (a0.1, (a0.2.1, ()))).bind fun r6 => ((laws_toInt64S.f k a1).bind fun r7 => ((laws_toInt64S.f k a2).bind fun r8 => ((impl_AwardPot.f k (r6.1.1.1, (r6.1.1.2.1, ())) r7.1.1 r8.1.1 a3).bind fun r9 => ((laws_eqInt64S.f k r9.1.1 r5.1.1).bind fun r10 => (bif (!r10.1.1) then (some ((false, ()), ())) else (bif (r9.1.2.1 != r5.1.2.1) then (some ((false, ()), ())) else ((laws_toPot.f k (a0.1, (a0.2.1, ()))).bind fun r11 => ((laws_eqPot.f k (r6.1.1.1, (r6.1.1.2.1, ())) (r11.1.1.1, (r11.1.1.2.1, ()))).bind fun r12 => (bif (!r12.1.1) then (some ((false, ()), ())) else ((laws_toInt64S.f k a1).bind fun r13 => ((laws_eqInt64S.f k r7.1.1 r13.1.1).bind fun r14 => (bif (!r14.1.1) then (some ((false, ()), ())) else ((laws_toInt64S.f k a2).bind fun r15 => ((laws_eqInt64S.f k r8.1.1 r15.1.1).bind fun r16 => (bif (!r16.1.1) then (some ((false, ()), ())) else ((laws_markInt64S.f k r6.1.1.2.1 (1 : Int)).bind fun r17 => ((laws_markInt64S.f k r7.1.1 r17.1.1).bind fun r18 => ((laws_markInt64S.f k r8.1.1 r18.1.1).bind fun r19 => (bif (decide (r19.1.1 < (0 : Int))) then (some ((false, ()), ())) else ((laws_eqInt64S.f k r9.1.1 r5.1.1).bind fun r20 => (bif (!r20.1.1) then (some ((false, ()), ())) else (bif (r9.1.2.1 != r5.1.2.1) then (some ((false, ()), ())) else ((laws_markInt64S.f k r9.1.1 (1 : Int)).bind fun r21 => ((laws_heldInt64S.f k r21.2.1 (1 : Int)).bind fun r22 => (bif (decide (r22.1.1 < (0 : Int))) then (some ((false, ()), ())) else (bif (r22.1.1 != r21.1.1) then (some ((false, ()), ())) else ((laws_toPot.f k (a0.1, (a0.2.1, ()))).bind fun r23 => ((laws_toInt64S.f k a1).bind fun r24 => ((laws_toInt64S.f k a2).bind fun r25 => ((impl_AwardPot.f k (r23.1.1.1, (r23.1.1.2.1, ())) r24.1.1 r25.1.1 a3).bind fun r26 => ((laws_eqInt64S.f k r26.1.1 r5.1.1).bind fun r27 => (bif (!r27.1.1) then (some ((false, ()), ())) else (bif (r26.1.2.1 != r5.1.2.1) then (some ((false, ()), ())) else ((laws_heldInt64S.f k r21.2.1 (1 : Int)).bind fun r28 => (bif (decide (r28.1.1 < (0 : Int))) then (some ((false, ()), ())) else (bif (r28.1.1 != r21.1.1) then (some ((false, ()), ())) else (some ((true, ()), ())))))))))))))))))))))))))))))))))))))))))))))))
end laws_FnExactAwardPot
end Go.Sh
