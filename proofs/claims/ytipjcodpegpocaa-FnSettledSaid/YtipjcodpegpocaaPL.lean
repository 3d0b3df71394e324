/- Plain lemmas on numbers and lists for the loops of the shallow functions; conditions: none. -/
import Derived.Test.YtipjcodpegpocaaA0
set_option linter.unusedVariables false
namespace Go.Sh
open Go

/-! ### plain words for the laws -/
theorem loop_fix {V R : Type} {L : Nat → V → Option R} {S : (V → Option R) → V → Option R} (hL : ∀ n v, L (n + 1) v = S (L n) v) (Inv : V → Prop) (μ : V → Nat) (G : V → Option R)
    (h : ∀ v rec, Inv v → (∀ w, Inv w → μ w < μ v → rec w = G w) → S rec v = G v) : ∀ n v, Inv v → μ v < n → L n v = G v := by
  intro n
  induction n with
  | zero => intro v _ h; omega
  | succ n ih =>
    intro v hv hn
    rw [hL]
    exact h v (L n) hv (fun w hw hlt => ih w hw (by omega))

theorem wrap_id {x : Int} (h1 : -9223372036854775808 ≤ x) (h2 : x < 9223372036854775808) : IntKind.wrap .i64 x = x := by
  unfold IntKind.wrap
  simp only [IntKind.signed, IntKind.bits, Bool.true_and]
  split
  · rename_i h; have := of_decide_eq_true h; omega
  · rename_i h; have := of_decide_eq_false (Bool.not_eq_true _ ▸ h); omega
theorem wrap_succ {i : Nat} (h : i < 2^62) : IntKind.wrap .i64 ((i : Int) + 1) = (i : Int) + 1 := wrap_id (by omega) (by omega)
theorem wrap_pred {i : Nat} (h : i < 2^62) (h0 : 0 < i) : IntKind.wrap .i64 ((i : Int) - 1) = ((i - 1 : Nat) : Int) := by
  rw [wrap_id (by omega) (by omega)]; omega
theorem bif_dec {α : Type} {p : Prop} [Decidable p] {a b : α} : (bif decide p then a else b) = if p then a else b := by
  by_cases h : p <;> simp [h]
theorem drop_cons {α : Type} {l : List α} {i : Nat} (h : i < l.length) (d : α) : l.drop i = l.getD i d :: l.drop (i + 1) := by
  rw [List.drop_eq_getElem_cons h, List.getD_eq_getElem?_getD, List.getElem?_eq_getElem h]; rfl
theorem getD_lt {α : Type} {l : List α} {i : Nat} (h : i < l.length) (d : α) : l.getD i d = l[i] := by
  rw [List.getD_eq_getElem?_getD, List.getElem?_eq_getElem h]; rfl
/-- In a round over a list's places: i is within. -/
theorem in_range {i n : Nat} (h : i < n) : (decide (0 ≤ (i : Int)) && decide ((i : Int) < (n : Int))) = true := by
  simp; omega
theorem in_rangeN {i n : Nat} (h : i < n) : decide (Int.toNat (i : Int) < n) = true := by simp; exact h

theorem all_drop {α : Type} {p : α → Bool} {l : List α} {i : Nat} (h : i < l.length) : (l.drop i).all p = (p l[i] && (l.drop (i + 1)).all p) := by rw [List.drop_eq_getElem_cons h, List.all_cons]
theorem any_drop {α : Type} {p : α → Bool} {l : List α} {i : Nat} (h : i < l.length) : (l.drop i).any p = (p l[i] || (l.drop (i + 1)).any p) := by rw [List.drop_eq_getElem_cons h, List.any_cons]
theorem copy_step {α : Type} {l : List α} {d : α} {i : Nat} (h : i < l.length) : (l.take i ++ List.replicate (l.length - i) d).set i l[i] = l.take (i + 1) ++ List.replicate (l.length - (i + 1)) d := by
  have e : l.length - i = (l.length - (i + 1)) + 1 := by omega
  have e1 : i - (l.take i).length = 0 := by rw [List.length_take]; omega
  rw [e, List.replicate_succ, List.set_append_right _ _ (by rw [List.length_take]; omega), e1, List.set_cons_zero, ← List.take_append_getElem h, List.append_assoc, List.singleton_append]
theorem beq_drop {α : Type} [BEq α] {a b : List α} {i : Nat} (h : i < a.length) (h' : i < b.length) : (a.drop i == b.drop i) = (a[i] == b[i] && a.drop (i + 1) == b.drop (i + 1)) := by
  rw [List.drop_eq_getElem_cons h, List.drop_eq_getElem_cons h']; rfl
/-- What marking a list leaves in it. -/
def marks (a : Int) (n : Nat) : List Int := (List.range n).map fun (i : Nat) => a + (i : Int)
theorem marks_len (a : Int) (n : Nat) : (marks a n).length = n := by simp [marks]
theorem marks_get {a : Int} {n i : Nat} (h : i < n) : (marks a n)[i]'(by rw [marks_len]; exact h) = a + (i : Int) := by simp [marks]
theorem marks_step {a : Int} {l : List Int} {i : Nat} (h : i < l.length) : (marks a i ++ l.drop i).set i (a + (i : Int)) = marks a (i + 1) ++ l.drop (i + 1) := by
  rw [List.set_append_right _ _ (by simp [marks]), marks_len, Nat.sub_self, List.drop_eq_getElem_cons h, List.set_cons_zero]
  simp [marks, List.range_succ]
theorem nn (i : Nat) : decide (0 ≤ (i : Int)) = true := by simp
theorem ltD {i n : Nat} (h : i < n) : decide ((i : Int) < (n : Int)) = true := by simp; exact h
def inB (lo hi x : Int) : Bool := decide (lo ≤ x) && decide (x ≤ hi)
theorem sum_take_succ {l : List Int} {i : Nat} (h : i < l.length) : (l.take (i + 1)).sum = (l.take i).sum + l[i] := by
  rw [← List.take_append_getElem h, List.sum_append, List.sum_singleton]
theorem all_inB {l : List Int} {a b : Int} (h : l.all (inB a b) = true) : ∀ x ∈ l, a ≤ x ∧ x ≤ b := by
  intro x hx
  have := List.all_eq_true.1 h x hx
  simpa [inB] using this
theorem sum_le {b : Int} (hb : 0 ≤ b) : ∀ {l : List Int}, (∀ x ∈ l, 0 ≤ x ∧ x ≤ b) → 0 ≤ l.sum ∧ l.sum ≤ b * l.length
  | [], _ => by simp
  | x :: l, h => by
    have := sum_le hb (l := l) (fun y hy => h y (by simp [hy]))
    have hx := h x (by simp)
    simp only [List.sum_cons, List.length_cons]
    have : b * ((l.length + 1 : Nat) : Int) = b * l.length + b := by rw [Int.natCast_succ, Int.mul_add, Int.mul_one]
    omega
theorem sum_take_le {b : Int} {l : List Int} (h : l.all (inB 0 b) = true) (i : Nat) : 0 ≤ (l.take i).sum ∧ (l.take i).sum ≤ b * (l.take i).length := by
  cases l with
  | nil => simp
  | cons x l =>
    have h0 := all_inB h x (by simp)
    have := sum_le (b := b) (by omega) (l := (x :: l).take i) (fun y hy => all_inB h y (List.mem_of_mem_take hy))
    exact this
theorem take_snoc {α : Type} {l : List α} {i : Nat} (h : i < l.length) : l.take i ++ [l[i]] = l.take (i + 1) := List.take_append_getElem h
/-- An append's bound. -/
theorem room {n m : Nat} (h : n ≤ 2^40) (hm : m ≤ 64) : decide (n * m ≤ AM.maxBytes) = true := by
  unfold AM.maxBytes
  have : n * m ≤ 2^40 * 64 := Nat.mul_le_mul h hm
  simp; omega
theorem upd_len {α : Type} {l m : List α} {i : Nat} (hl : l.length = m.length) (h : i ≤ m.length) : (l.take i ++ m.drop i).length = m.length := by
  simp; omega
theorem upd_get {α : Type} {l m : List α} {i : Nat} (hl : l.length = m.length) (h : i < m.length) (d : α) : (l.take i ++ m.drop i).getD i d = m[i] := by
  have e : i - min i l.length = 0 := by omega
  rw [List.getD_eq_getElem?_getD, List.getElem?_append_right (by simp; omega), List.length_take, e, List.getElem?_drop, Nat.add_zero, List.getElem?_eq_getElem h]; rfl
theorem upd_step {α : Type} {l m : List α} {i : Nat} (hl : i < l.length) (hm : i < m.length) : (l.take i ++ m.drop i).set i l[i] = l.take (i + 1) ++ m.drop (i + 1) := by
  have e1 : i - (l.take i).length = 0 := by rw [List.length_take]; omega
  rw [List.set_append_right _ _ (by rw [List.length_take]; omega), e1, List.drop_eq_getElem_cons hm, List.set_cons_zero, ← List.take_append_getElem hl, List.append_assoc, List.singleton_append]
theorem both_same {R : Type} {a b : Option R} {r : R} (ha : a = some r) (hb : b = some r) : AM.both a b = some r := by
  unfold AM.both; rw [ha, hb, if_pos rfl]
theorem idxOf_first {l : List Int} {i : Nat} {x : Int} (h : i < l.length) (hx : l[i] = x) (hno : ∀ (j : Nat) (hj : j < i), l[j]'(by omega) ≠ x) : l.idxOf x = i := by
  induction l generalizing i with
  | nil => simp at h
  | cons y l ih =>
    cases i with
    | zero => simp only [List.getElem_cons_zero] at hx; subst hx; simp
    | succ i =>
      have h0 := hno 0 (by omega)
      simp only [List.getElem_cons_zero] at h0
      rw [List.idxOf_cons, show (y == x) = false by simp [h0], cond_false]
      rw [ih (by simpa using h) (by simpa using hx) (fun j hj => by simpa using hno (j + 1) (by omega))]
end Go.Sh
