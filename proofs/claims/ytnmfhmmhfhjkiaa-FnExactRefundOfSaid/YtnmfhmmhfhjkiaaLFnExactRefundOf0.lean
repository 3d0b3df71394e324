/- What the Lean functions compute, in plain lists and numbers; conditions stand in each lemma. -/
import Derived.Test.YtnmfhmmhfhjkiaaSFnExactRefundOf0
set_option linter.unusedVariables false
set_option linter.unusedSimpArgs false
namespace Go.Sh
open Go
theorem l01In_eq (k : Nat) (a lo hi : Int) : spec_l01In.f k a lo hi = some ((inB lo hi a, ()), ()) := by
  unfold spec_l01In.f inB
  by_cases h : lo ≤ a <;> simp [h]

theorem within_eq (k : Nat) (a lo hi : Int) : impl_within.f k a lo hi = some ((inB lo hi a, ()), ()) := by
  unfold impl_within.f inB
  by_cases h : lo ≤ a <;> simp [h]

attribute [simp] l01In_eq within_eq

theorem l10Chips_eq {k : Nat} (K : 2^42 ≤ k) {l : List Int} (hl : l.length ≤ 2^40) (n : Int) : spec_l10Chips.f k l n = some ((l.all (inB 0 600000) && ((l.length : Int) == n), ()), ()) := by
  unfold spec_l10Chips.f
  refine (spec_l10Chips.l2_for l.length (fun _ x0 x1 => l = x0 ∧ n = x1) (fun i _ _ => some ((((l.drop i).all (inB 0 600000) && ((l.length : Int) == n)), ()), ())) ?_ k 0 l n (Nat.zero_le _) ⟨rfl, rfl⟩ (by omega)).trans (by simp)
  rintro i _ _ rec hi ⟨rfl, rfl⟩ hrec
  unfold spec_l10Chips.s2
  by_cases h : i < l.length
  · simp [h, wrap_succ (show i < 2^62 by omega), all_drop h, hrec _ _ h ⟨rfl, rfl⟩]
    cases inB 0 600000 l[i] <;> simp
  · have : i = l.length := by omega
    subst this
    simp

theorem allWithin_eq {k : Nat} (K : 2^42 ≤ k) {l : List Int} (hl : l.length ≤ 2^40) (a b : Int) : impl_allWithin.f k l a b = some ((l.all (inB a b), ()), ()) := by
  unfold impl_allWithin.f
  refine (impl_allWithin.l2_for l.length (fun _ x1 x2 x9 x10 => a = x1 ∧ b = x2 ∧ l = x9 ∧ (l.length : Int) = x10) (fun i _ _ _ _ => some (((l.drop i).all (inB a b), ()), ())) ?_ k 0 _ _ _ _ (Nat.zero_le _) ⟨rfl, rfl, rfl, rfl⟩ (by omega)).trans (by simp)
  rintro i _ _ _ _ rec hi ⟨rfl, rfl, rfl, rfl⟩ hrec
  unfold impl_allWithin.s2
  by_cases h : i < l.length
  · simp [h, wrap_succ (show i < 2^62 by omega), all_drop h, hrec _ _ _ _ h ⟨rfl, rfl, rfl, rfl⟩]
    cases inB a b l[i] <;> simp
  · have : i = l.length := by omega
    subst this
    simp

theorem toInt64S_eq {k : Nat} (K : 2^42 ≤ k) {l : List Int} (hl : l.length ≤ 2^40) : laws_toInt64S.f k l = some ((l, ()), ()) := by
  unfold laws_toInt64S.f
  have hm : (l.length : Int) * 8 ≤ 140737488355328 := by omega
  simp [AM.maxBytes, hm]
  refine (laws_toInt64S.l3_for l.length (fun i x0 y => l = x0 ∧ l.take i ++ List.replicate (l.length - i) 0 = y) (fun _ _ _ => some ((l, ()), ())) ?_ k 0 _ _ (Nat.zero_le _) ⟨rfl, by simp⟩ (by omega))
  rintro i _ _ rec hi ⟨rfl, rfl⟩ hrec
  unfold laws_toInt64S.s3
  by_cases h : i < l.length
  · have hmin : min i l.length + (l.length - i) = l.length := by omega
    simp [h, hmin, wrap_succ (show i < 2^62 by omega), copy_step h, hrec _ _ h ⟨rfl, rfl⟩]
  · have : i = l.length := by omega
    subst this
    simp

theorem toBoolS_eq {k : Nat} (K : 2^42 ≤ k) {l : List Bool} (hl : l.length ≤ 2^40) : laws_toBoolS.f k l = some ((l, ()), ()) := by
  unfold laws_toBoolS.f
  have hm : (l.length : Int) ≤ 140737488355328 := by omega
  simp [AM.maxBytes, hm]
  refine (laws_toBoolS.l3_for l.length (fun i x0 y => l = x0 ∧ l.take i ++ List.replicate (l.length - i) false = y) (fun _ _ _ => some ((l, ()), ())) ?_ k 0 _ _ (Nat.zero_le _) ⟨rfl, by simp⟩ (by omega))
  rintro i _ _ rec hi ⟨rfl, rfl⟩ hrec
  unfold laws_toBoolS.s3
  by_cases h : i < l.length
  · have hmin : min i l.length + (l.length - i) = l.length := by omega
    simp [h, hmin, wrap_succ (show i < 2^62 by omega), copy_step h, hrec _ _ h ⟨rfl, rfl⟩]
  · have : i = l.length := by omega
    subst this
    simp

theorem eqInt64S_eq {k : Nat} (K : 2^42 ≤ k) {a b : List Int} (hl : a.length ≤ 2^40) : laws_eqInt64S.f k a b = some ((a == b, ()), ()) := by
  unfold laws_eqInt64S.f
  by_cases hab : a.length = b.length
  · simp only [hab, bne_self_eq_false, cond_false]
    refine (laws_eqInt64S.l4_for a.length (fun i x0 x1 => a = x0 ∧ b = x1) (fun i _ _ => some ((a.drop i == b.drop i, ()), ())) ?_ k 0 _ _ (Nat.zero_le _) ⟨rfl, rfl⟩ (by omega)).trans (by simp)
    rintro i _ _ rec hi ⟨rfl, rfl⟩ hrec
    unfold laws_eqInt64S.s4
    by_cases h : i < a.length
    · have h' : i < b.length := by omega
      simp [h, h', wrap_succ (show i < 2^62 by omega), beq_drop h h', hrec _ _ h ⟨rfl, rfl⟩, bne]
      cases a[i] == b[i] <;> simp
    · have : i = a.length := by omega
      subst this
      simp [hab]
  · have : (a == b) = false := by
      cases hq : a == b with
      | false => rfl
      | true => exact absurd (congrArg List.length (eq_of_beq hq)) hab
    have h2 : ((a.length : Int) != (b.length : Int)) = true := by simp; omega
    simp [h2, this]

theorem eqBoolS_eq {k : Nat} (K : 2^42 ≤ k) {a b : List Bool} (hl : a.length ≤ 2^40) : laws_eqBoolS.f k a b = some ((a == b, ()), ()) := by
  unfold laws_eqBoolS.f
  by_cases hab : a.length = b.length
  · simp only [hab, bne_self_eq_false, cond_false]
    refine (laws_eqBoolS.l4_for a.length (fun i x0 x1 => a = x0 ∧ b = x1) (fun i _ _ => some ((a.drop i == b.drop i, ()), ())) ?_ k 0 _ _ (Nat.zero_le _) ⟨rfl, rfl⟩ (by omega)).trans (by simp)
    rintro i _ _ rec hi ⟨rfl, rfl⟩ hrec
    unfold laws_eqBoolS.s4
    by_cases h : i < a.length
    · have h' : i < b.length := by omega
      simp [h, h', wrap_succ (show i < 2^62 by omega), beq_drop h h', hrec _ _ h ⟨rfl, rfl⟩]
      cases a[i] <;> cases b[i] <;> simp
    · have : i = a.length := by omega
      subst this
      simp [hab]
  · have : (a == b) = false := by
      cases hq : a == b with
      | false => rfl
      | true => exact absurd (congrArg List.length (eq_of_beq hq)) hab
    have h2 : ((a.length : Int) != (b.length : Int)) = true := by simp; omega
    simp [h2, this]

theorem markInt64S_eq {k : Nat} (K : 2^42 ≤ k) {l : List Int} (hl : l.length ≤ 2^40) {a : Int} (h0 : 0 ≤ a) (h1 : a ≤ 2^60) : laws_markInt64S.f k l a = some ((a + l.length, ()), (marks a l.length, ())) := by
  unfold laws_markInt64S.f
  refine (laws_markInt64S.l2_for l.length (fun i x1 y => a + (i : Int) = x1 ∧ marks a i ++ l.drop i = y) (fun _ _ _ => some ((a + l.length, ()), (marks a l.length, ()))) ?_ k 0 _ _ (Nat.zero_le _) ⟨by simp, by simp [marks]⟩ (by omega))
  rintro i _ _ rec hi ⟨rfl, rfl⟩ hrec
  unfold laws_markInt64S.s2
  by_cases h : i < l.length
  · have hlen : (marks a i).length + (l.length - i) = l.length := by rw [marks_len]; omega
    have hw : IntKind.wrap .i64 (a + (i : Int) + 1) = a + ((i + 1 : Nat) : Int) := by rw [wrap_id (by omega) (by omega)]; omega
    simp only [List.length_append, List.length_drop, hlen, in_range h, in_rangeN h, Int.toNat_natCast, marks_step h, hw, wrap_succ (show i < 2^62 by omega), decide_eq_true (show (i : Int) < (l.length : Int) by omega), cond_true, hrec _ _ h ⟨rfl, rfl⟩]
    simp [h]
  · have : i = l.length := by omega
    subst this
    simp [marks_len]

theorem heldInt64S_eq {k : Nat} (K : 2^42 ≤ k) {n : Nat} (hl : n ≤ 2^40) {a : Int} (h0 : 0 ≤ a) (h1 : a ≤ 2^60) : laws_heldInt64S.f k (marks a n) a = some ((a + n, ()), ()) := by
  unfold laws_heldInt64S.f
  refine (laws_heldInt64S.l2_for n (fun i x0 x1 => marks a n = x0 ∧ a + (i : Int) = x1) (fun _ _ _ => some ((a + n, ()), ())) ?_ k 0 _ _ (Nat.zero_le _) ⟨rfl, by simp⟩ (by omega))
  rintro i _ _ rec hi ⟨rfl, rfl⟩ hrec
  unfold laws_heldInt64S.s2
  by_cases h : i < n
  · have hw : IntKind.wrap .i64 (a + (i : Int) + 1) = a + ((i + 1 : Nat) : Int) := by rw [wrap_id (by omega) (by omega)]; omega
    simp only [marks_len, in_range h, Int.toNat_natCast, hw, wrap_succ (show i < 2^62 by omega), decide_eq_true (show (i : Int) < (n : Int) by omega), cond_true, getD_lt (show i < (marks a n).length by rw [marks_len]; exact h), marks_get h, bne_self_eq_false, cond_false, hrec _ _ h ⟨rfl, rfl⟩]
    simp
  · have : i = n := by omega
    subst this
    simp [marks_len]

/-- Some seat has paid and not folded. -/
def live : List Int → List Bool → Bool
  | n :: l, b :: m => (!b && decide (n > 0)) || live l m
  | _, _ => false

theorem live_drop {l : List Int} {m : List Bool} {i : Nat} (h : i < l.length) (h' : i < m.length) : live (l.drop i) (m.drop i) = ((!m[i] && decide (l[i] > 0)) || live (l.drop (i + 1)) (m.drop (i + 1))) := by
  rw [List.drop_eq_getElem_cons h, List.drop_eq_getElem_cons h', live]

/-- Payments. -/
def pays (l : List Int) (m : List Bool) : Bool := inB 2 6 l.length && ((l.all (inB 0 600000) && l.length == m.length) && live l m)

theorem sArePayments_eq {k : Nat} (K : 2^42 ≤ k) {l : List Int} (hl : l.length ≤ 2^40) (m : List Bool) : spec_ArePayments.f k l m = some ((pays l m, ()), ()) := by
  unfold spec_ArePayments.f pays
  cases h1 : inB 2 6 l.length with
  | false => simp [h1]
  | true =>
    simp only [l01In_eq, Option.bind_some, h1, Bool.not_true, cond_false, l10Chips_eq K hl, Bool.true_and]
    have hc : ((l.length : Int) == (m.length : Int)) = (l.length == m.length) := by
      rw [Bool.eq_iff_iff]; simp; omega
    rw [hc]
    cases h2 : l.all (inB 0 600000) && l.length == m.length with
    | false => simp [h2]
    | true =>
      have hlen : l.length = m.length := by
        simp only [Bool.and_eq_true, beq_iff_eq] at h2
        exact h2.2
      simp only [Bool.not_true, cond_false, Bool.true_and]
      refine (spec_ArePayments.l4_for l.length (fun i x0 x1 => l = x0 ∧ m = x1) (fun i _ _ => some ((live (l.drop i) (m.drop i), ()), ())) ?_ k 0 _ _ (Nat.zero_le _) ⟨rfl, rfl⟩ (by omega)).trans (by simp)
      rintro i _ _ rec hi ⟨rfl, rfl⟩ hrec
      unfold spec_ArePayments.s4
      by_cases h : i < l.length
      · have h' : i < m.length := by omega
        simp [h, h', wrap_succ (show i < 2^62 by omega), live_drop h h', hrec _ _ h ⟨rfl, rfl⟩]
        cases m[i] <;> by_cases hc : 0 < l[i] <;> simp [hc]
      · have : i = l.length := by omega
        subst this
        simp [live]

theorem iArePayments_eq {k : Nat} (K : 2^42 ≤ k) {l : List Int} (hl : l.length ≤ 2^40) (m : List Bool) : impl_ArePayments.f k l m = some ((pays l m, ()), ()) := by
  unfold impl_ArePayments.f pays
  cases h1 : inB 2 6 l.length with
  | false => simp [h1]
  | true =>
    simp only [within_eq, Option.bind_some, h1, Bool.not_true, cond_false, allWithin_eq K hl, Bool.true_and]
    by_cases hlen : l.length = m.length
    · simp only [hlen, bne_self_eq_false, cond_false, beq_self_eq_true, Bool.and_true]
      cases h2 : l.all (inB 0 600000) with
      | false => simp
      | true =>
        simp only [Bool.not_true, cond_false, Bool.true_and]
        refine (impl_ArePayments.l4_for l.length (fun i x1 x23 x24 => m = x1 ∧ l = x23 ∧ (l.length : Int) = x24) (fun i _ _ _ => some ((live (l.drop i) (m.drop i), ()), ())) ?_ k 0 _ _ _ (Nat.zero_le _) ⟨rfl, rfl, by rw [hlen]⟩ (by omega)).trans (by simp)
        rintro i _ _ _ rec hi ⟨rfl, rfl, rfl⟩ hrec
        unfold impl_ArePayments.s4
        by_cases h : i < l.length
        · have h' : i < m.length := by omega
          simp [h, h', wrap_succ (show i < 2^62 by omega), live_drop h h', hrec _ _ _ h ⟨rfl, rfl, rfl⟩]
          cases m[i] <;> by_cases hc : 0 < l[i] <;> simp [hc]
        · have : i = l.length := by omega
          subst this
          simp [live]
    · have h3 : ((m.length : Int) != (l.length : Int)) = true := by simp; omega
      have h4 : (l.length == m.length) = false := by simp [hlen]
      simp [h3, h4]

/-- What is too long: the law says nothing of it. -/
theorem long {α : Type} {l : List α} : (decide ((((l.length : Nat) : Int)) > (1048576 : Int))) = decide (1048576 < l.length) := by
  simp; omega

theorem clone_eq {k : Nat} {l : List Int} (hl : l.length ≤ 2^40) : slices_Clone_int64_int64.f k l = some ((l, ()), ()) := by
  unfold slices_Clone_int64_int64.f
  have hr : decide ((([] : List Int).length + l.length) * 8 ≤ AM.maxBytes) = true := room (by simpa using hl) (by omega)
  rw [hr]
  by_cases h : 0 < l.length
  · simp [h]
  · have : l = [] := List.eq_nil_of_length_eq_zero (by omega)
    subst this
    simp only [List.length_nil, Nat.lt_irrefl, decide_false, cond_false, cond_true, List.append_nil]
    exact both_same rfl rfl

/-- b is the first of the greatest among the first n. -/
def IsBest (l : List Int) (n b : Nat) : Prop := b < n ∧ (∀ j, j < b → l.getD j 0 < l.getD b 0) ∧ ∀ j, j < n → l.getD j 0 ≤ l.getD b 0

theorem IsBest.uniq {l : List Int} {n b c : Nat} (h : IsBest l n b) (h' : IsBest l n c) : b = c := by
  rcases Nat.lt_trichotomy b c with e | e | e
  · have := h'.2.1 b e; have := h.2.2 c h'.1; omega
  · exact e
  · have := h.2.1 c e; have := h'.2.2 b h.1; omega

theorem IsBest.zero (l : List Int) : IsBest l 1 0 := ⟨by omega, fun j h => by omega, fun j h => by have : j = 0 := by omega
                                                                                                   subst this; omega⟩

theorem IsBest.more {l : List Int} {n b : Nat} (h : IsBest l n b) (hx : l.getD n 0 > l.getD b 0) : IsBest l (n + 1) n := by
  refine ⟨by omega, fun j hj => ?_, fun j hj => ?_⟩
  · have := h.2.2 j hj; omega
  · rcases Nat.lt_or_ge j n with e | e
    · have := h.2.2 j e; omega
    · have : j = n := by omega
      subst this; omega

theorem IsBest.same {l : List Int} {n b : Nat} (h : IsBest l n b) (hx : ¬ l.getD n 0 > l.getD b 0) : IsBest l (n + 1) b := by
  refine ⟨by have := h.1; omega, h.2.1, fun j hj => ?_⟩
  rcases Nat.lt_or_ge j n with e | e
  · exact h.2.2 j e
  · have : j = n := by omega
    subst this; omega

theorem IsBest.ex (l : List Int) : ∀ n, 0 < n → ∃ b, IsBest l n b
  | 0, h => by omega
  | 1, _ => ⟨0, .zero l⟩
  | n + 2, _ => by
    obtain ⟨b, hb⟩ := IsBest.ex l (n + 1) (by omega)
    by_cases hx : l.getD (n + 1) 0 > l.getD b 0
    · exact ⟨_, hb.more hx⟩
    · exact ⟨_, hb.same hx⟩

/-- The greatest of the others, or 0. -/
def secGo (b : Nat) : Nat → List Int → Int → Int
  | _, [], s => s
  | i, x :: r, s => secGo b (i + 1) r (if i = b then s else if x > s then x else s)

theorem secGo_drop {b i : Nat} {l : List Int} (h : i < l.length) (s : Int) : secGo b i (l.drop i) s = secGo b (i + 1) (l.drop (i + 1)) (if i = b then s else if l[i] > s then l[i] else s) := by
  rw [List.drop_eq_getElem_cons h, secGo]

/-- The uncalled chips, given the first of those who have paid most. -/
def uncR (l : List Int) (b : Nat) : Int × Int := if l.getD b 0 = secGo b 0 l 0 then (0, 0) else ((b : Int), IntKind.wrap .i64 (l.getD b 0 - secGo b 0 l 0))

theorem sUncalled_eq {k : Nat} (K : 2^42 ≤ k) {l : List Int} (hl : l.length ≤ 2^40) {b : Nat} (hb : IsBest l l.length b) : spec_l12Uncalled.f k l = some (((uncR l b).1, (uncR l b).2, ()), ()) := by
  unfold spec_l12Uncalled.f
  have h0 : 0 < l.length := by have := hb.1; omega
  refine (spec_l12Uncalled.l3_for l.length (fun i x0 x4 => l = x0 ∧ 1 ≤ i ∧ ∃ c : Nat, x4 = (c : Int) ∧ IsBest l i c) (fun _ _ _ => some (((uncR l b).1, (uncR l b).2, ()), ())) ?_ k 1 _ _ (by omega) ⟨rfl, by omega, 0, rfl, .zero l⟩ (by omega))
  rintro i _ _ rec hi ⟨rfl, h1, c, rfl, hc⟩ hrec
  unfold spec_l12Uncalled.s3
  by_cases h : i < l.length
  · have hci : c < l.length := by have := hc.1; omega
    by_cases hx : l.getD i 0 > l.getD c 0
    · have := hrec l (i : Int) h ⟨rfl, by omega, i, rfl, hc.more hx⟩
      simp only [ltD hci, Int.toNat_natCast, decide_eq_true hx, nn, ltD h, Bool.and_self, wrap_succ (show i < 2^62 by omega), cond_true, this]
    · have := hrec l (c : Int) h ⟨rfl, by omega, c, rfl, hc.same hx⟩
      simp only [ltD hci, Int.toNat_natCast, decide_eq_false hx, nn, ltD h, Bool.and_self, wrap_succ (show i < 2^62 by omega), cond_true, cond_false, this]
  · have : i = l.length := by omega
    subst this
    obtain rfl := hc.uniq hb
    simp only [Int.lt_irrefl, decide_false, cond_false]
    refine (spec_l12Uncalled.l9_for l.length (fun i x0 x4 x6 => l = x0 ∧ (c : Int) = x4 ∧ secGo c i (l.drop i) x6 = secGo c 0 l 0) (fun _ _ _ _ => some (((uncR l c).1, (uncR l c).2, ()), ())) ?_ k 0 _ _ _ (by omega) ⟨rfl, rfl, by simp⟩ (by omega))
    rintro i _ _ s rec hi ⟨rfl, rfl, hs⟩ hrec
    unfold spec_l12Uncalled.s9
    by_cases h : i < l.length
    · rw [secGo_drop h] at hs
      by_cases hic : i = c
      · rw [if_pos hic] at hs
        have hne : ((i : Int) != (c : Int)) = false := by simp [hic]
        simp only [hne, nn, ltD h, Bool.and_self, wrap_succ (show i < 2^62 by omega), cond_true, cond_false, hrec _ _ _ h ⟨rfl, rfl, hs⟩]
      · rw [if_neg hic] at hs
        have hne : ((i : Int) != (c : Int)) = true := by simp; omega
        simp only [hne, Int.toNat_natCast, getD_lt h, nn, ltD h, Bool.and_self, wrap_succ (show i < 2^62 by omega), cond_true, cond_false, hrec _ _ _ h ⟨rfl, rfl, hs⟩]
    · have : i = l.length := by omega
      subst this
      simp only [List.drop_length, secGo] at hs
      subst hs
      simp only [Int.lt_irrefl, decide_false, cond_false, nn, ltD hb.1, Bool.and_self, cond_true, Int.toNat_natCast]
      unfold uncR
      by_cases he : l.getD c 0 = secGo c 0 l 0
      · rw [he, if_pos rfl]
        simp only [beq_self_eq_true, cond_true]
      · have hne : (l.getD c 0 == secGo c 0 l 0) = false := by simp only [beq_eq_false_iff_ne]; exact he
        rw [hne, if_neg he]
        rfl

theorem max_eq {k : Nat} (K : 2^42 ≤ k) {l : List Int} (hl : l.length ≤ 2^40) {b : Nat} (hb : IsBest l l.length b) : slices_Max_int64_int64.f k l = some ((l.getD b 0, ()), ()) := by
  unfold slices_Max_int64_int64.f
  have h0 : 0 < l.length := by have := hb.1; omega
  have h1 : ¬ ((l.length : Int) < 1) := by omega
  have h2 : (0 : Int) < (l.length : Int) := by omega
  simp only [h1, h2, decide_false, cond_false, Int.le_refl, decide_true, Bool.and_self, cond_true]
  refine (slices_Max_int64_int64.l5_for l.length (fun i x0 x3 => l = x0 ∧ 1 ≤ i ∧ ∃ c : Nat, x3 = l.getD c 0 ∧ IsBest l i c) (fun _ _ _ => some ((l.getD b 0, ()), ())) ?_ k 1 _ _ (by omega) ⟨rfl, by omega, 0, rfl, .zero l⟩ (by omega))
  rintro i _ _ rec hi ⟨rfl, h1, c, rfl, hc⟩ hrec
  unfold slices_Max_int64_int64.s5
  by_cases h : i < l.length
  · by_cases hx : l.getD i 0 > l.getD c 0
    · have := hrec l (l.getD i 0) h ⟨rfl, by omega, i, rfl, hc.more hx⟩
      simp only [Int.toNat_natCast, if_pos hx, nn, ltD h, Bool.and_self, wrap_succ (show i < 2^62 by omega), cond_true, this]
    · have := hrec l (l.getD c 0) h ⟨rfl, by omega, c, rfl, hc.same hx⟩
      simp only [Int.toNat_natCast, if_neg hx, nn, ltD h, Bool.and_self, wrap_succ (show i < 2^62 by omega), cond_true, cond_false, this]
  · have : i = l.length := by omega
    subst this
    obtain rfl := hc.uniq hb
    simp

/-- Where x stands first. -/
theorem index_eq {k : Nat} (K : 2^42 ≤ k) {l : List Int} (hl : l.length ≤ 2^40) (x : Int) : slices_Index_int64_int64.f k l x = some ((if x ∈ l then ((l.idxOf x : Nat) : Int) else -1, ()), ()) := by
  unfold slices_Index_int64_int64.f
  refine (slices_Index_int64_int64.l2_for l.length (fun i x0 x1 x7 => l = x0 ∧ x = x1 ∧ (l.length : Int) = x7 ∧ ∀ j, j < i → l.getD j 0 ≠ x) (fun i _ _ _ => some ((if x ∈ l then ((l.idxOf x : Nat) : Int) else -1, ()), ())) ?_ k 0 _ _ _ (Nat.zero_le _) ⟨rfl, rfl, rfl, fun j hj => by omega⟩ (by omega))
  rintro i _ _ _ rec hi ⟨rfl, rfl, rfl, hno⟩ hrec
  unfold slices_Index_int64_int64.s2
  by_cases h : i < l.length
  · by_cases hx : x = l[i]
    · have hm : x ∈ l := hx ▸ List.getElem_mem h
      have hidx : l.idxOf x = i := idxOf_first h hx.symm (fun j hj => by have := hno j hj; rwa [getD_lt (show j < l.length by omega)] at this)
      simp [h, hx.symm, hm, hidx]
    · have hb : (x == l[i]) = false := by simp [hx]
      simp only [Int.toNat_natCast, getD_lt h, hb, nn, ltD h, Bool.and_self, wrap_succ (show i < 2^62 by omega), cond_true, cond_false]
      refine hrec _ _ _ h ⟨rfl, rfl, rfl, fun j hj => ?_⟩
      rcases Nat.lt_or_ge j i with e | e
      · exact hno j e
      · have : j = i := by omega
        subst this
        rw [getD_lt h]
        exact fun e => hx e.symm
  · have : i = l.length := by omega
    subst this
    have hm : x ∉ l := by
      intro hm
      obtain ⟨j, hj, e⟩ := List.mem_iff_getElem.1 hm
      exact hno j hj (by rw [getD_lt hj]; exact e)
    simp [hm]

theorem iUncalled_eq {k : Nat} (K : 2^42 ≤ k) {l : List Int} (hl : l.length ≤ 2^40) {b : Nat} (hb : IsBest l l.length b) : impl_uncalledOf.f k l = some (((uncR l b).1, (uncR l b).2, ()), ()) := by
  unfold impl_uncalledOf.f
  have hm : l.getD b 0 ∈ l := by rw [getD_lt hb.1]; exact List.getElem_mem _
  have hidx : l.idxOf (l.getD b 0) = b := idxOf_first hb.1 (getD_lt hb.1 0).symm (fun j hj => by
    have := hb.2.1 j hj
    rw [getD_lt (show j < l.length by have := hb.1; omega)] at this
    omega)
  simp only [max_eq K hl hb, index_eq K hl, Option.bind_some, if_pos hm, hidx]
  refine (impl_uncalledOf.l5_for l.length (fun i x4 x5 x6 x14 x15 => l.getD b 0 = x4 ∧ (b : Int) = x5 ∧ secGo b i (l.drop i) x6 = secGo b 0 l 0 ∧ l = x14 ∧ (l.length : Int) = x15) (fun _ _ _ _ _ _ => some (((uncR l b).1, (uncR l b).2, ()), ())) ?_ k 0 _ _ _ _ _ (by omega) ⟨rfl, rfl, by simp, rfl, rfl⟩ (by omega))
  rintro i _ _ s _ _ rec hi ⟨rfl, rfl, hs, rfl, rfl⟩ hrec
  unfold impl_uncalledOf.s5
  by_cases h : i < l.length
  · rw [secGo_drop h] at hs
    by_cases hic : i = b
    · rw [if_pos hic] at hs
      have hne : ((i : Int) != (b : Int)) = false := by simp [hic]
      simp only [hne, nn, ltD h, Bool.and_self, wrap_succ (show i < 2^62 by omega), cond_true, cond_false, hrec _ _ _ _ _ h ⟨rfl, rfl, hs, rfl, rfl⟩]
    · rw [if_neg hic] at hs
      have hne : ((i : Int) != (b : Int)) = true := by simp; omega
      simp only [hne, nn, ltD h, Bool.and_self, Int.toNat_natCast, getD_lt h, wrap_succ (show i < 2^62 by omega), cond_true, cond_false, hrec _ _ _ _ _ h ⟨rfl, rfl, hs, rfl, rfl⟩]
  · have : i = l.length := by omega
    subst this
    simp only [List.drop_length, secGo] at hs
    subst hs
    simp only [Int.lt_irrefl, decide_false, cond_false]
    unfold uncR
    by_cases he : l.getD b 0 = secGo b 0 l 0
    · rw [if_pos he, ← he]
      simp only [beq_self_eq_true, cond_true]
    · have hne : (secGo b 0 l 0 == l.getD b 0) = false := by simp only [beq_eq_false_iff_ne]; exact fun e => he e.symm
      rw [hne, if_neg he]
      rfl

theorem pays_len {l : List Int} {m : List Bool} (h : pays l m = true) : 2 ≤ l.length ∧ l.length ≤ 6 ∧ l.all (inB 0 600000) = true ∧ l.length = m.length := by
  simp only [pays, inB, Bool.and_eq_true, decide_eq_true_eq, beq_iff_eq] at h
  obtain ⟨⟨h1, h2⟩, ⟨h3, h4⟩, h5⟩ := h
  exact ⟨by omega, by omega, h3, h4⟩

theorem l01Own_eq {k : Nat} {l : List Int} (hl : l.length ≤ 2^40) : spec_l01Own.f k l = some ((l, ()), ()) := by
  unfold spec_l01Own.f
  have hr : decide ((([] : List Int).length + l.length) * 8 ≤ AM.maxBytes) = true := room (by simpa using hl) (by omega)
  rw [hr]
  simp

/-- The payments without the uncalled chips. -/
def refL (l : List Int) (b : Nat) : List Int := l.set (uncR l b).1.toNat (IntKind.wrap .i64 (l.getD (uncR l b).1.toNat 0 - (uncR l b).2))

theorem uncR_seat {l : List Int} {b : Nat} (hb : IsBest l l.length b) : ∃ j : Nat, (uncR l b).1 = (j : Int) ∧ j < l.length := by
  unfold uncR
  have := hb.1
  split
  · exact ⟨0, rfl, by omega⟩
  · exact ⟨b, rfl, hb.1⟩

theorem sRefund_eq {k : Nat} (K : 2^42 ≤ k) {l : List Int} (hl : l.length ≤ 2^40) {b : Nat} (hb : IsBest l l.length b) : spec_l12Refund.f k l = some ((refL l b, ()), ()) := by
  unfold spec_l12Refund.f
  obtain ⟨j, hj, hjl⟩ := uncR_seat hb
  simp only [l01Own_eq hl, sUncalled_eq K hl hb, Option.bind_some, refL, hj, nn, ltD hjl, Bool.and_self, cond_true, Int.toNat_natCast, decide_eq_true hjl]

theorem iRefund_eq {k : Nat} (K : 2^42 ≤ k) {l : List Int} (hl : l.length ≤ 2^40) {b : Nat} (hb : IsBest l l.length b) : impl_refunded.f k l = some ((refL l b, ()), ()) := by
  unfold impl_refunded.f
  obtain ⟨j, hj, hjl⟩ := uncR_seat hb
  simp only [clone_eq hl, iUncalled_eq K hl hb, Option.bind_some, refL, hj, nn, ltD hjl, Bool.and_self, cond_true, Int.toNat_natCast, decide_eq_true hjl]

theorem RefundOf_eq {k : Nat} (K : 2^42 ≤ k) {l : List Int} (hl : l.length ≤ 2^40) (m : List Bool) : ∃ (o : List Int) (c : Int), o.length ≤ 2^40 ∧ spec_RefundOf.f k l m = some ((o, c, ()), ()) ∧ impl_RefundOf.f k l m = some ((o, c, ()), ()) := by
  unfold spec_RefundOf.f impl_RefundOf.f
  simp only [sArePayments_eq K hl, iArePayments_eq K hl, Option.bind_some]
  cases hp : pays l m with
  | false => exact ⟨[], 1, by simp, by simp, by simp⟩
  | true =>
    obtain ⟨b, hb⟩ := IsBest.ex l l.length (by have := pays_len hp; omega)
    simp only [sRefund_eq K hl hb, iRefund_eq K hl hb, Option.bind_some, Bool.not_true, cond_false]
    exact ⟨refL l b, 0, by simp [refL]; omega, rfl, rfl⟩

/-- Marking bools: what comes out is a number, and a list of the same length. -/
def bmarks (a : Int) (n : Nat) : List Bool := (List.range n).map fun (i : Nat) => (Int.tmod (a + (i : Int)) 3 == 0)

theorem bmarks_len (a : Int) (n : Nat) : (bmarks a n).length = n := by simp [bmarks]

theorem bmarks_step {a : Int} {l : List Bool} {i : Nat} (h : i < l.length) : (bmarks a i ++ l.drop i).set i (Int.tmod (a + (i : Int)) 3 == 0) = bmarks a (i + 1) ++ l.drop (i + 1) := by
  rw [List.set_append_right _ _ (by simp [bmarks]), bmarks_len, Nat.sub_self, List.drop_eq_getElem_cons h, List.set_cons_zero]
  simp [bmarks, List.range_succ]

theorem markBoolS_eq {k : Nat} (K : 2^42 ≤ k) {l : List Bool} (hl : l.length ≤ 2^40) {a : Int} (h0 : 0 ≤ a) (h1 : a ≤ 2^60) : laws_markBoolS.f k l a = some ((a + l.length, ()), (bmarks a l.length, ())) := by
  unfold laws_markBoolS.f
  refine (laws_markBoolS.l2_for l.length (fun i x1 y => a + (i : Int) = x1 ∧ bmarks a i ++ l.drop i = y) (fun _ _ _ => some ((a + l.length, ()), (bmarks a l.length, ()))) ?_ k 0 _ _ (Nat.zero_le _) ⟨by simp, by simp [bmarks]⟩ (by omega))
  rintro i _ _ rec hi ⟨rfl, rfl⟩ hrec
  unfold laws_markBoolS.s2
  have h3 : decide ((3 : Int) = 0) = false := by decide
  by_cases h : i < l.length
  · have hlen : (bmarks a i).length + (l.length - i) = l.length := by rw [bmarks_len]; omega
    have hw : IntKind.wrap .i64 (a + (i : Int) + 1) = a + ((i + 1 : Nat) : Int) := by rw [wrap_id (by omega) (by omega)]; omega
    simp only [h3, Bool.not_false, List.length_append, List.length_drop, hlen, nn, ltD h, Bool.and_self, decide_eq_true h, Int.toNat_natCast, bmarks_step h, hw, wrap_succ (show i < 2^62 by omega), cond_true, hrec _ _ h ⟨rfl, rfl⟩]
  · have : i = l.length := by omega
    subst this
    simp [bmarks_len]

theorem FnExactRefundOf_ok (a0 : List Int) (a1 : List Bool) : laws_FnExactRefundOf.f (2^42) a0 a1 = some ((true, ()), ()) := by
  unfold laws_FnExactRefundOf.f
  simp only [long]
  by_cases h1 : 1048576 < a0.length
  · simp [h1]
  by_cases h2 : 1048576 < a1.length
  · simp [h1, h2]
  have K : 2^42 ≤ 2^42 := Nat.le_refl _
  have hl : a0.length ≤ 2^40 := by omega
  have hm : a1.length ≤ 2^40 := by omega
  obtain ⟨o, c, hr, es, ei⟩ := RefundOf_eq K hl a1
  have e1 := markInt64S_eq K hl (a := 1) (by omega) (by omega)
  have e2 := markBoolS_eq K hm (a := 1 + a0.length) (by omega) (by omega)
  have e3 := markInt64S_eq K hr (a := 1) (by omega) (by omega)
  have e4 := heldInt64S_eq K hr (a := 1) (by omega) (by omega)
  have n1 : decide ((1 : Int) + a0.length + a1.length < 0) = false := by simp; omega
  have n2 : decide ((1 : Int) + o.length < 0) = false := by simp; omega
  simp only [h1, h2, toInt64S_eq K hl, toBoolS_eq K hm, es, ei, eqInt64S_eq K hl, eqBoolS_eq K hm, eqInt64S_eq K hr, e1, e2, e3, e4, n1, n2, Option.bind_some, decide_false, cond_false, beq_self_eq_true, Bool.not_true, bne_self_eq_false]
end Go.Sh
