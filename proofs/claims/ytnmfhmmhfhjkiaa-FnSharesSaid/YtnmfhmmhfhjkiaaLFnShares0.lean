/- What the Lean functions compute, in plain lists and numbers; conditions stand in each lemma. -/
import Derived.Test.YtnmfhmmhfhjkiaaSFnShares0
set_option linter.unusedVariables false
set_option linter.unusedSimpArgs false
namespace Go.Sh
open Go
theorem l01In_eq (k : Nat) (a lo hi : Int) : spec_l01In.f k a lo hi = some ((inB lo hi a, ()), ()) := by
  unfold spec_l01In.f inB
  by_cases h : lo ≤ a <;> simp [h]

theorem within_eq (k : Nat) (a lo hi : Int) : impl_within.f k a lo hi = some ((inB lo hi a, ()), ()) := by
  unfold impl_within.f inB
  by_cases h : lo ≤ a <;> simp [h]

attribute [simp] l01In_eq within_eq

theorem l10Chips_eq {k : Nat} (K : 2^42 ≤ k) {l : List Int} (hl : l.length ≤ 2^40) (n : Int) : spec_l10Chips.f k l n = some ((l.all (inB 0 600000) && ((l.length : Int) == n), ()), ()) := by
  unfold spec_l10Chips.f
  refine (spec_l10Chips.l2_for l.length (fun _ x0 x1 => l = x0 ∧ n = x1) (fun i _ _ => some ((((l.drop i).all (inB 0 600000) && ((l.length : Int) == n)), ()), ())) ?_ k 0 l n (Nat.zero_le _) ⟨rfl, rfl⟩ (by omega)).trans (by simp)
  rintro i _ _ rec hi ⟨rfl, rfl⟩ hrec
  unfold spec_l10Chips.s2
  by_cases h : i < l.length
  · simp [h, wrap_succ (show i < 2^62 by omega), all_drop h, hrec _ _ h ⟨rfl, rfl⟩]
    cases inB 0 600000 l[i] <;> simp
  · have : i = l.length := by omega
    subst this
    simp

theorem allWithin_eq {k : Nat} (K : 2^42 ≤ k) {l : List Int} (hl : l.length ≤ 2^40) (a b : Int) : impl_allWithin.f k l a b = some ((l.all (inB a b), ()), ()) := by
  unfold impl_allWithin.f
  refine (impl_allWithin.l2_for l.length (fun _ x1 x2 x9 x10 => a = x1 ∧ b = x2 ∧ l = x9 ∧ (l.length : Int) = x10) (fun i _ _ _ _ => some (((l.drop i).all (inB a b), ()), ())) ?_ k 0 _ _ _ _ (Nat.zero_le _) ⟨rfl, rfl, rfl, rfl⟩ (by omega)).trans (by simp)
  rintro i _ _ _ _ rec hi ⟨rfl, rfl, rfl, rfl⟩ hrec
  unfold impl_allWithin.s2
  by_cases h : i < l.length
  · simp [h, wrap_succ (show i < 2^62 by omega), all_drop h, hrec _ _ _ _ h ⟨rfl, rfl, rfl, rfl⟩]
    cases inB a b l[i] <;> simp
  · have : i = l.length := by omega
    subst this
    simp

/-- Some seat has paid and not folded. -/
def live : List Int → List Bool → Bool
  | n :: l, b :: m => (!b && decide (n > 0)) || live l m
  | _, _ => false

theorem live_drop {l : List Int} {m : List Bool} {i : Nat} (h : i < l.length) (h' : i < m.length) : live (l.drop i) (m.drop i) = ((!m[i] && decide (l[i] > 0)) || live (l.drop (i + 1)) (m.drop (i + 1))) := by
  rw [List.drop_eq_getElem_cons h, List.drop_eq_getElem_cons h', live]

/-- Payments. -/
def pays (l : List Int) (m : List Bool) : Bool := inB 2 6 l.length && ((l.all (inB 0 600000) && l.length == m.length) && live l m)

theorem sArePayments_eq {k : Nat} (K : 2^42 ≤ k) {l : List Int} (hl : l.length ≤ 2^40) (m : List Bool) : spec_ArePayments.f k l m = some ((pays l m, ()), ()) := by
  unfold spec_ArePayments.f pays
  cases h1 : inB 2 6 l.length with
  | false => simp [h1]
  | true =>
    simp only [l01In_eq, Option.bind_some, h1, Bool.not_true, cond_false, l10Chips_eq K hl, Bool.true_and]
    have hc : ((l.length : Int) == (m.length : Int)) = (l.length == m.length) := by
      rw [Bool.eq_iff_iff]; simp; omega
    rw [hc]
    cases h2 : l.all (inB 0 600000) && l.length == m.length with
    | false => simp [h2]
    | true =>
      have hlen : l.length = m.length := by
        simp only [Bool.and_eq_true, beq_iff_eq] at h2
        exact h2.2
      simp only [Bool.not_true, cond_false, Bool.true_and]
      refine (spec_ArePayments.l4_for l.length (fun i x0 x1 => l = x0 ∧ m = x1) (fun i _ _ => some ((live (l.drop i) (m.drop i), ()), ())) ?_ k 0 _ _ (Nat.zero_le _) ⟨rfl, rfl⟩ (by omega)).trans (by simp)
      rintro i _ _ rec hi ⟨rfl, rfl⟩ hrec
      unfold spec_ArePayments.s4
      by_cases h : i < l.length
      · have h' : i < m.length := by omega
        simp [h, h', wrap_succ (show i < 2^62 by omega), live_drop h h', hrec _ _ h ⟨rfl, rfl⟩]
        cases m[i] <;> by_cases hc : 0 < l[i] <;> simp [hc]
      · have : i = l.length := by omega
        subst this
        simp [live]

theorem iArePayments_eq {k : Nat} (K : 2^42 ≤ k) {l : List Int} (hl : l.length ≤ 2^40) (m : List Bool) : impl_ArePayments.f k l m = some ((pays l m, ()), ()) := by
  unfold impl_ArePayments.f pays
  cases h1 : inB 2 6 l.length with
  | false => simp [h1]
  | true =>
    simp only [within_eq, Option.bind_some, h1, Bool.not_true, cond_false, allWithin_eq K hl, Bool.true_and]
    by_cases hlen : l.length = m.length
    · simp only [hlen, bne_self_eq_false, cond_false, beq_self_eq_true, Bool.and_true]
      cases h2 : l.all (inB 0 600000) with
      | false => simp
      | true =>
        simp only [Bool.not_true, cond_false, Bool.true_and]
        refine (impl_ArePayments.l4_for l.length (fun i x1 x23 x24 => m = x1 ∧ l = x23 ∧ (l.length : Int) = x24) (fun i _ _ _ => some ((live (l.drop i) (m.drop i), ()), ())) ?_ k 0 _ _ _ (Nat.zero_le _) ⟨rfl, rfl, by rw [hlen]⟩ (by omega)).trans (by simp)
        rintro i _ _ _ rec hi ⟨rfl, rfl, rfl⟩ hrec
        unfold impl_ArePayments.s4
        by_cases h : i < l.length
        · have h' : i < m.length := by omega
          simp [h, h', wrap_succ (show i < 2^62 by omega), live_drop h h', hrec _ _ _ h ⟨rfl, rfl, rfl⟩]
          cases m[i] <;> by_cases hc : 0 < l[i] <;> simp [hc]
        · have : i = l.length := by omega
          subst this
          simp [live]
    · have h3 : ((m.length : Int) != (l.length : Int)) = true := by simp; omega
      have h4 : (l.length == m.length) = false := by simp [hlen]
      simp [h3, h4]

theorem clone_eq {k : Nat} {l : List Int} (hl : l.length ≤ 2^40) : slices_Clone_int64_int64.f k l = some ((l, ()), ()) := by
  unfold slices_Clone_int64_int64.f
  have hr : decide ((([] : List Int).length + l.length) * 8 ≤ AM.maxBytes) = true := room (by simpa using hl) (by omega)
  rw [hr]
  by_cases h : 0 < l.length
  · simp [h]
  · have : l = [] := List.eq_nil_of_length_eq_zero (by omega)
    subst this
    simp only [List.length_nil, Nat.lt_irrefl, decide_false, cond_false, cond_true, List.append_nil]
    exact both_same rfl rfl

/-- b is the first of the greatest among the first n. -/
def IsBest (l : List Int) (n b : Nat) : Prop := b < n ∧ (∀ j, j < b → l.getD j 0 < l.getD b 0) ∧ ∀ j, j < n → l.getD j 0 ≤ l.getD b 0

theorem IsBest.uniq {l : List Int} {n b c : Nat} (h : IsBest l n b) (h' : IsBest l n c) : b = c := by
  rcases Nat.lt_trichotomy b c with e | e | e
  · have := h'.2.1 b e; have := h.2.2 c h'.1; omega
  · exact e
  · have := h.2.1 c e; have := h'.2.2 b h.1; omega

theorem IsBest.zero (l : List Int) : IsBest l 1 0 := ⟨by omega, fun j h => by omega, fun j h => by have : j = 0 := by omega
                                                                                                   subst this; omega⟩

theorem IsBest.more {l : List Int} {n b : Nat} (h : IsBest l n b) (hx : l.getD n 0 > l.getD b 0) : IsBest l (n + 1) n := by
  refine ⟨by omega, fun j hj => ?_, fun j hj => ?_⟩
  · have := h.2.2 j hj; omega
  · rcases Nat.lt_or_ge j n with e | e
    · have := h.2.2 j e; omega
    · have : j = n := by omega
      subst this; omega

theorem IsBest.same {l : List Int} {n b : Nat} (h : IsBest l n b) (hx : ¬ l.getD n 0 > l.getD b 0) : IsBest l (n + 1) b := by
  refine ⟨by have := h.1; omega, h.2.1, fun j hj => ?_⟩
  rcases Nat.lt_or_ge j n with e | e
  · exact h.2.2 j e
  · have : j = n := by omega
    subst this; omega

theorem IsBest.ex (l : List Int) : ∀ n, 0 < n → ∃ b, IsBest l n b
  | 0, h => by omega
  | 1, _ => ⟨0, .zero l⟩
  | n + 2, _ => by
    obtain ⟨b, hb⟩ := IsBest.ex l (n + 1) (by omega)
    by_cases hx : l.getD (n + 1) 0 > l.getD b 0
    · exact ⟨_, hb.more hx⟩
    · exact ⟨_, hb.same hx⟩

/-- The greatest of the others, or 0. -/
def secGo (b : Nat) : Nat → List Int → Int → Int
  | _, [], s => s
  | i, x :: r, s => secGo b (i + 1) r (if i = b then s else if x > s then x else s)

theorem secGo_drop {b i : Nat} {l : List Int} (h : i < l.length) (s : Int) : secGo b i (l.drop i) s = secGo b (i + 1) (l.drop (i + 1)) (if i = b then s else if l[i] > s then l[i] else s) := by
  rw [List.drop_eq_getElem_cons h, secGo]

/-- The uncalled chips, given the first of those who have paid most. -/
def uncR (l : List Int) (b : Nat) : Int × Int := if l.getD b 0 = secGo b 0 l 0 then (0, 0) else ((b : Int), IntKind.wrap .i64 (l.getD b 0 - secGo b 0 l 0))

theorem sUncalled_eq {k : Nat} (K : 2^42 ≤ k) {l : List Int} (hl : l.length ≤ 2^40) {b : Nat} (hb : IsBest l l.length b) : spec_l12Uncalled.f k l = some (((uncR l b).1, (uncR l b).2, ()), ()) := by
  unfold spec_l12Uncalled.f
  have h0 : 0 < l.length := by have := hb.1; omega
  refine (spec_l12Uncalled.l3_for l.length (fun i x0 x4 => l = x0 ∧ 1 ≤ i ∧ ∃ c : Nat, x4 = (c : Int) ∧ IsBest l i c) (fun _ _ _ => some (((uncR l b).1, (uncR l b).2, ()), ())) ?_ k 1 _ _ (by omega) ⟨rfl, by omega, 0, rfl, .zero l⟩ (by omega))
  rintro i _ _ rec hi ⟨rfl, h1, c, rfl, hc⟩ hrec
  unfold spec_l12Uncalled.s3
  by_cases h : i < l.length
  · have hci : c < l.length := by have := hc.1; omega
    by_cases hx : l.getD i 0 > l.getD c 0
    · have := hrec l (i : Int) h ⟨rfl, by omega, i, rfl, hc.more hx⟩
      simp only [ltD hci, Int.toNat_natCast, decide_eq_true hx, nn, ltD h, Bool.and_self, wrap_succ (show i < 2^62 by omega), cond_true, this]
    · have := hrec l (c : Int) h ⟨rfl, by omega, c, rfl, hc.same hx⟩
      simp only [ltD hci, Int.toNat_natCast, decide_eq_false hx, nn, ltD h, Bool.and_self, wrap_succ (show i < 2^62 by omega), cond_true, cond_false, this]
  · have : i = l.length := by omega
    subst this
    obtain rfl := hc.uniq hb
    simp only [Int.lt_irrefl, decide_false, cond_false]
    refine (spec_l12Uncalled.l9_for l.length (fun i x0 x4 x6 => l = x0 ∧ (c : Int) = x4 ∧ secGo c i (l.drop i) x6 = secGo c 0 l 0) (fun _ _ _ _ => some (((uncR l c).1, (uncR l c).2, ()), ())) ?_ k 0 _ _ _ (by omega) ⟨rfl, rfl, by simp⟩ (by omega))
    rintro i _ _ s rec hi ⟨rfl, rfl, hs⟩ hrec
    unfold spec_l12Uncalled.s9
    by_cases h : i < l.length
    · rw [secGo_drop h] at hs
      by_cases hic : i = c
      · rw [if_pos hic] at hs
        have hne : ((i : Int) != (c : Int)) = false := by simp [hic]
        simp only [hne, nn, ltD h, Bool.and_self, wrap_succ (show i < 2^62 by omega), cond_true, cond_false, hrec _ _ _ h ⟨rfl, rfl, hs⟩]
      · rw [if_neg hic] at hs
        have hne : ((i : Int) != (c : Int)) = true := by simp; omega
        simp only [hne, Int.toNat_natCast, getD_lt h, nn, ltD h, Bool.and_self, wrap_succ (show i < 2^62 by omega), cond_true, cond_false, hrec _ _ _ h ⟨rfl, rfl, hs⟩]
    · have : i = l.length := by omega
      subst this
      simp only [List.drop_length, secGo] at hs
      subst hs
      simp only [Int.lt_irrefl, decide_false, cond_false, nn, ltD hb.1, Bool.and_self, cond_true, Int.toNat_natCast]
      unfold uncR
      by_cases he : l.getD c 0 = secGo c 0 l 0
      · rw [he, if_pos rfl]
        simp only [beq_self_eq_true, cond_true]
      · have hne : (l.getD c 0 == secGo c 0 l 0) = false := by simp only [beq_eq_false_iff_ne]; exact he
        rw [hne, if_neg he]
        rfl

theorem max_eq {k : Nat} (K : 2^42 ≤ k) {l : List Int} (hl : l.length ≤ 2^40) {b : Nat} (hb : IsBest l l.length b) : slices_Max_int64_int64.f k l = some ((l.getD b 0, ()), ()) := by
  unfold slices_Max_int64_int64.f
  have h0 : 0 < l.length := by have := hb.1; omega
  have h1 : ¬ ((l.length : Int) < 1) := by omega
  have h2 : (0 : Int) < (l.length : Int) := by omega
  simp only [h1, h2, decide_false, cond_false, Int.le_refl, decide_true, Bool.and_self, cond_true]
  refine (slices_Max_int64_int64.l5_for l.length (fun i x0 x3 => l = x0 ∧ 1 ≤ i ∧ ∃ c : Nat, x3 = l.getD c 0 ∧ IsBest l i c) (fun _ _ _ => some ((l.getD b 0, ()), ())) ?_ k 1 _ _ (by omega) ⟨rfl, by omega, 0, rfl, .zero l⟩ (by omega))
  rintro i _ _ rec hi ⟨rfl, h1, c, rfl, hc⟩ hrec
  unfold slices_Max_int64_int64.s5
  by_cases h : i < l.length
  · by_cases hx : l.getD i 0 > l.getD c 0
    · have := hrec l (l.getD i 0) h ⟨rfl, by omega, i, rfl, hc.more hx⟩
      simp only [Int.toNat_natCast, if_pos hx, nn, ltD h, Bool.and_self, wrap_succ (show i < 2^62 by omega), cond_true, this]
    · have := hrec l (l.getD c 0) h ⟨rfl, by omega, c, rfl, hc.same hx⟩
      simp only [Int.toNat_natCast, if_neg hx, nn, ltD h, Bool.and_self, wrap_succ (show i < 2^62 by omega), cond_true, cond_false, this]
  · have : i = l.length := by omega
    subst this
    obtain rfl := hc.uniq hb
    simp

/-- Where x stands first. -/
theorem index_eq {k : Nat} (K : 2^42 ≤ k) {l : List Int} (hl : l.length ≤ 2^40) (x : Int) : slices_Index_int64_int64.f k l x = some ((if x ∈ l then ((l.idxOf x : Nat) : Int) else -1, ()), ()) := by
  unfold slices_Index_int64_int64.f
  refine (slices_Index_int64_int64.l2_for l.length (fun i x0 x1 x7 => l = x0 ∧ x = x1 ∧ (l.length : Int) = x7 ∧ ∀ j, j < i → l.getD j 0 ≠ x) (fun i _ _ _ => some ((if x ∈ l then ((l.idxOf x : Nat) : Int) else -1, ()), ())) ?_ k 0 _ _ _ (Nat.zero_le _) ⟨rfl, rfl, rfl, fun j hj => by omega⟩ (by omega))
  rintro i _ _ _ rec hi ⟨rfl, rfl, rfl, hno⟩ hrec
  unfold slices_Index_int64_int64.s2
  by_cases h : i < l.length
  · by_cases hx : x = l[i]
    · have hm : x ∈ l := hx ▸ List.getElem_mem h
      have hidx : l.idxOf x = i := idxOf_first h hx.symm (fun j hj => by have := hno j hj; rwa [getD_lt (show j < l.length by omega)] at this)
      simp [h, hx.symm, hm, hidx]
    · have hb : (x == l[i]) = false := by simp [hx]
      simp only [Int.toNat_natCast, getD_lt h, hb, nn, ltD h, Bool.and_self, wrap_succ (show i < 2^62 by omega), cond_true, cond_false]
      refine hrec _ _ _ h ⟨rfl, rfl, rfl, fun j hj => ?_⟩
      rcases Nat.lt_or_ge j i with e | e
      · exact hno j e
      · have : j = i := by omega
        subst this
        rw [getD_lt h]
        exact fun e => hx e.symm
  · have : i = l.length := by omega
    subst this
    have hm : x ∉ l := by
      intro hm
      obtain ⟨j, hj, e⟩ := List.mem_iff_getElem.1 hm
      exact hno j hj (by rw [getD_lt hj]; exact e)
    simp [hm]

theorem iUncalled_eq {k : Nat} (K : 2^42 ≤ k) {l : List Int} (hl : l.length ≤ 2^40) {b : Nat} (hb : IsBest l l.length b) : impl_uncalledOf.f k l = some (((uncR l b).1, (uncR l b).2, ()), ()) := by
  unfold impl_uncalledOf.f
  have hm : l.getD b 0 ∈ l := by rw [getD_lt hb.1]; exact List.getElem_mem _
  have hidx : l.idxOf (l.getD b 0) = b := idxOf_first hb.1 (getD_lt hb.1 0).symm (fun j hj => by
    have := hb.2.1 j hj
    rw [getD_lt (show j < l.length by have := hb.1; omega)] at this
    omega)
  simp only [max_eq K hl hb, index_eq K hl, Option.bind_some, if_pos hm, hidx]
  refine (impl_uncalledOf.l5_for l.length (fun i x4 x5 x6 x14 x15 => l.getD b 0 = x4 ∧ (b : Int) = x5 ∧ secGo b i (l.drop i) x6 = secGo b 0 l 0 ∧ l = x14 ∧ (l.length : Int) = x15) (fun _ _ _ _ _ _ => some (((uncR l b).1, (uncR l b).2, ()), ())) ?_ k 0 _ _ _ _ _ (by omega) ⟨rfl, rfl, by simp, rfl, rfl⟩ (by omega))
  rintro i _ _ s _ _ rec hi ⟨rfl, rfl, hs, rfl, rfl⟩ hrec
  unfold impl_uncalledOf.s5
  by_cases h : i < l.length
  · rw [secGo_drop h] at hs
    by_cases hic : i = b
    · rw [if_pos hic] at hs
      have hne : ((i : Int) != (b : Int)) = false := by simp [hic]
      simp only [hne, nn, ltD h, Bool.and_self, wrap_succ (show i < 2^62 by omega), cond_true, cond_false, hrec _ _ _ _ _ h ⟨rfl, rfl, hs, rfl, rfl⟩]
    · rw [if_neg hic] at hs
      have hne : ((i : Int) != (b : Int)) = true := by simp; omega
      simp only [hne, nn, ltD h, Bool.and_self, Int.toNat_natCast, getD_lt h, wrap_succ (show i < 2^62 by omega), cond_true, cond_false, hrec _ _ _ _ _ h ⟨rfl, rfl, hs, rfl, rfl⟩]
  · have : i = l.length := by omega
    subst this
    simp only [List.drop_length, secGo] at hs
    subst hs
    simp only [Int.lt_irrefl, decide_false, cond_false]
    unfold uncR
    by_cases he : l.getD b 0 = secGo b 0 l 0
    · rw [if_pos he, ← he]
      simp only [beq_self_eq_true, cond_true]
    · have hne : (secGo b 0 l 0 == l.getD b 0) = false := by simp only [beq_eq_false_iff_ne]; exact fun e => he e.symm
      rw [hne, if_neg he]
      rfl

theorem pays_len {l : List Int} {m : List Bool} (h : pays l m = true) : 2 ≤ l.length ∧ l.length ≤ 6 ∧ l.all (inB 0 600000) = true ∧ l.length = m.length := by
  simp only [pays, inB, Bool.and_eq_true, decide_eq_true_eq, beq_iff_eq] at h
  obtain ⟨⟨h1, h2⟩, ⟨h3, h4⟩, h5⟩ := h
  exact ⟨by omega, by omega, h3, h4⟩

theorem l01Has_eq {k : Nat} (K : 2^42 ≤ k) {l : List Int} (hl : l.length ≤ 2^40) (x : Int) : spec_l01Has.f k l x = some ((decide (x ∈ l), ()), ()) := by
  unfold spec_l01Has.f
  refine (spec_l01Has.l2_for l.length (fun i x0 x1 => l = x0 ∧ x = x1) (fun i _ _ => some ((decide (x ∈ l.drop i), ()), ())) ?_ k 0 _ _ (Nat.zero_le _) ⟨rfl, rfl⟩ (by omega)).trans (by simp)
  rintro i _ _ rec hi ⟨rfl, rfl⟩ hrec
  unfold spec_l01Has.s2
  by_cases h : i < l.length
  · simp only [nn, ltD h, Bool.and_self, Int.toNat_natCast, getD_lt h, wrap_succ (show i < 2^62 by omega), cond_true, hrec _ _ h ⟨rfl, rfl⟩]
    have e : (x ∈ l.drop i) ↔ (l[i] = x ∨ x ∈ l.drop (i + 1)) := by
      rw [List.drop_eq_getElem_cons h, List.mem_cons]
      exact ⟨fun h => h.imp Eq.symm id, fun h => h.imp Eq.symm id⟩
    by_cases hx : l[i] = x
    · simp [hx, e]
    · have hb : (l[i] == x) = false := by simp [hx]
      simp [hx, e, hb]
  · have : i = l.length := by omega
    subst this
    simp

theorem contains_eq {k : Nat} (K : 2^42 ≤ k) {l : List Int} (hl : l.length ≤ 2^40) (x : Int) : slices_Contains_int64_int64.f k l x = some ((decide (x ∈ l), ()), ()) := by
  unfold slices_Contains_int64_int64.f
  rw [index_eq K hl]
  by_cases h : x ∈ l <;> simp [h]

theorem inB_iff {a b x : Int} : inB a b x = true ↔ a ≤ x ∧ x ≤ b := by simp [inB]

theorem l01Own_eq {k : Nat} {l : List Int} (hl : l.length ≤ 2^40) : spec_l01Own.f k l = some ((l, ()), ()) := by
  unfold spec_l01Own.f
  have hr : decide ((([] : List Int).length + l.length) * 8 ≤ AM.maxBytes) = true := room (by simpa using hl) (by omega)
  rw [hr]
  simp

/-- The payments without the uncalled chips. -/
def refL (l : List Int) (b : Nat) : List Int := l.set (uncR l b).1.toNat (IntKind.wrap .i64 (l.getD (uncR l b).1.toNat 0 - (uncR l b).2))

theorem uncR_seat {l : List Int} {b : Nat} (hb : IsBest l l.length b) : ∃ j : Nat, (uncR l b).1 = (j : Int) ∧ j < l.length := by
  unfold uncR
  have := hb.1
  split
  · exact ⟨0, rfl, by omega⟩
  · exact ⟨b, rfl, hb.1⟩

theorem sRefund_eq {k : Nat} (K : 2^42 ≤ k) {l : List Int} (hl : l.length ≤ 2^40) {b : Nat} (hb : IsBest l l.length b) : spec_l12Refund.f k l = some ((refL l b, ()), ()) := by
  unfold spec_l12Refund.f
  obtain ⟨j, hj, hjl⟩ := uncR_seat hb
  simp only [l01Own_eq hl, sUncalled_eq K hl hb, Option.bind_some, refL, hj, nn, ltD hjl, Bool.and_self, cond_true, Int.toNat_natCast, decide_eq_true hjl]

theorem iRefund_eq {k : Nat} (K : 2^42 ≤ k) {l : List Int} (hl : l.length ≤ 2^40) {b : Nat} (hb : IsBest l l.length b) : impl_refunded.f k l = some ((refL l b, ()), ()) := by
  unfold impl_refunded.f
  obtain ⟨j, hj, hjl⟩ := uncR_seat hb
  simp only [clone_eq hl, iUncalled_eq K hl hb, Option.bind_some, refL, hj, nn, ltD hjl, Bool.and_self, cond_true, Int.toNat_natCast, decide_eq_true hjl]

theorem gt0 {n : Nat} (h : 0 < n) : decide ((n : Int) > 0) = true := by simp; omega

theorem not_gt0 {n : Nat} (h : ¬ 0 < n) : decide ((n : Int) > 0) = false := by simp; omega

theorem two0 : decide ((2 : Int) = 0) = false := by decide

def UpTo (l : List Int) (n : Nat) : Prop := ∀ p q, p < q → q < n → l.getD p 0 ≤ l.getD q 0

def StrictTo (l : List Int) (n : Nat) : Prop := ∀ p q, p < q → q < n → l.getD p 0 < l.getD q 0

def Strict (l : List Int) : Prop := StrictTo l l.length

theorem mem_getD {l : List Int} {x : Int} : x ∈ l ↔ ∃ p, p < l.length ∧ l.getD p 0 = x := by
  rw [List.mem_iff_getElem]
  constructor
  · rintro ⟨p, hp, rfl⟩; exact ⟨p, hp, getD_lt hp 0⟩
  · rintro ⟨p, hp, rfl⟩; exact ⟨p, hp, (getD_lt hp 0).symm⟩

theorem set_getD {l : List Int} {a : Nat} (h : a < l.length) (x : Int) (p : Nat) : (l.set a x).getD p 0 = if p = a then x else l.getD p 0 := by
  rw [List.getD_eq_getElem?_getD, List.getD_eq_getElem?_getD, List.getElem?_set]
  by_cases c : a = p
  · subst c; simp [h]
  · rw [if_neg c, if_neg (fun h => c h.symm)]

theorem Strict.cons {a : Int} {l : List Int} (h : Strict (a :: l)) : Strict l ∧ ∀ x ∈ l, a < x := by
  refine ⟨fun p q hpq hq => ?_, fun x hx => ?_⟩
  · have := h (p + 1) (q + 1) (by omega) (by simpa using hq)
    simpa using this
  · obtain ⟨p, hp, rfl⟩ := mem_getD.1 hx
    have := h 0 (p + 1) (by omega) (by simpa using hp)
    simpa using this

theorem Strict.uniq : ∀ {a b : List Int}, Strict a → Strict b → (∀ x, x ∈ a ↔ x ∈ b) → a = b
  | [], [], _, _, _ => rfl
  | [], y :: b, _, _, h => by have := (h y).2 (by simp); simp at this
  | x :: a, [], _, _, h => by have := (h x).1 (by simp); simp at this
  | x :: a, y :: b, ha, hb, h => by
    have ha' := ha.cons
    have hb' := hb.cons
    have e : x = y := by
      rcases List.mem_cons.1 ((h x).1 (by simp)) with e | e
      · exact e
      · rcases List.mem_cons.1 ((h y).2 (by simp)) with e' | e'
        · exact e'.symm
        · have := ha'.2 y e'; have := hb'.2 x e; omega
    subst e
    have : a = b := Strict.uniq ha'.1 hb'.1 fun z => by
      constructor
      · intro hz
        rcases List.mem_cons.1 ((h z).1 (List.mem_cons_of_mem _ hz)) with e | e
        · have := ha'.2 z hz; omega
        · exact e
      · intro hz
        rcases List.mem_cons.1 ((h z).2 (List.mem_cons_of_mem _ hz)) with e | e
        · have := hb'.2 z hz; omega
        · exact e
    rw [this]

theorem swap_mem {l : List Int} {a b : Nat} (ha : a < l.length) (hb : b < l.length) (hab : a ≠ b) (x : Int) : x ∈ (l.set a (l.getD b 0)).set b (l.getD a 0) ↔ x ∈ l := by
  have e : ∀ p, ((l.set a (l.getD b 0)).set b (l.getD a 0)).getD p 0 = if p = b then l.getD a 0 else if p = a then l.getD b 0 else l.getD p 0 := by
    intro p
    rw [set_getD (by simpa using hb), set_getD ha]
  rw [mem_getD, mem_getD]
  simp only [List.length_set, e]
  constructor
  · rintro ⟨p, hp, rfl⟩
    by_cases c : p = b
    · exact ⟨a, ha, by rw [if_pos c]⟩
    · by_cases c' : p = a
      · exact ⟨b, hb, by rw [if_neg c, if_pos c']⟩
      · exact ⟨p, hp, by rw [if_neg c, if_neg c']⟩
  · rintro ⟨p, hp, rfl⟩
    by_cases c : p = b
    · subst c; exact ⟨a, ha, by rw [if_neg hab, if_pos rfl]⟩
    · by_cases c' : p = a
      · subst c'; exact ⟨b, hb, by rw [if_pos rfl]⟩
      · exact ⟨p, hp, by rw [if_neg c, if_neg c']⟩

theorem cmp_Less_eq (k : Nat) (a b : Int) : cmp_Less_int64.f k a b = some ((decide (a < b), ()), ()) := by
  unfold cmp_Less_int64.f cmp_isNaN_int64.f
  simp

theorem inner_eq {R : Type} {k : Nat} (K : 2^42 ≤ k) {n i : Nat} {m : List Bool} {y y1 : List Int} (hn : y.length = n) (hi : i < n) (hs : n ≤ 2^40) (hu : UpTo y i) (res : Option R) (kx2 : Int × Int × Int × List Bool × List Int × List Int → Option R)
    (hk : ∀ z, z.length = n → (∀ x, x ∈ z ↔ x ∈ y) → UpTo z (i + 1) → kx2 (0, (n : Int), (i : Int), m, z, y1) = res) : impl_potsOf.i9001_i1005_i4003_l4 k k (0, (n : Int), (i : Int), (i : Int), m, y, y1) kx2 = res := by
  refine impl_potsOf.i9001_i1005_i4003_l4_fix (fun v => ∃ (j : Nat) (z : List Int), j ≤ i ∧ v = (0, (n : Int), (i : Int), (j : Int), m, z, y1) ∧ z.length = n ∧ (∀ x, x ∈ z ↔ x ∈ y) ∧ ∀ p q, p < q → q ≤ i → q ≠ j → z.getD p 0 ≤ z.getD q 0) (fun v => v.2.2.2.1.toNat) (fun _ => res) ?_ k _ ⟨i, y, Nat.le_refl _, rfl, hn, fun _ => Iff.rfl, fun p q h1 h2 h3 => hu p q h1 (by omega)⟩ (by simp only [Int.toNat_natCast]; omega)
  rintro _ rec ⟨j, z, hj, rfl, hz, hm, hq⟩ hrec
  unfold impl_potsOf.i9001_i1005_i4003_s4
  by_cases h0 : j = 0
  · subst h0
    have : decide (((0 : Nat) : Int) > 0) = false := rfl
    simp only [this, cond_false]
    exact hk z hz hm (fun p q h1 h2 => hq p q h1 (by omega) (by omega))
  · have c0 : decide ((j : Int) > 0) = true := by simp; omega
    have wp : IntKind.wrap .i64 ((j : Int) - 1) = ((j - 1 : Nat) : Int) := wrap_pred (by omega) (by omega)
    have hjl : j < z.length := by omega
    have hjl' : j - 1 < z.length := by omega
    simp only [c0, cond_true, wp, nn, ltD hjl, ltD hjl', Bool.and_self, Int.toNat_natCast, decide_eq_true hjl, decide_eq_true hjl', cmp_Less_eq, Option.bind_some, List.length_set]
    by_cases c : z.getD j 0 < z.getD (j - 1) 0
    · simp only [decide_eq_true c, cond_true]
      refine hrec _ ⟨j - 1, _, by omega, rfl, by simp [hz], fun x => (swap_mem hjl hjl' (by omega) x).trans (hm x), ?_⟩ (by simp only [Int.toNat_natCast]; omega)
      intro p q h1 h2 h3
      rw [set_getD (by simpa using hjl'), set_getD hjl, set_getD (by simpa using hjl'), set_getD hjl]
      rw [if_neg h3]
      by_cases c1 : q = j
      · rw [if_pos c1]
        by_cases c2 : p = j - 1
        · rw [if_pos c2]; omega
        · rw [if_neg c2, if_neg (by omega)]; exact hq p (j - 1) (by omega) (by omega) (by omega)
      · rw [if_neg c1]
        by_cases c2 : p = j - 1
        · rw [if_pos c2]; exact hq j q (by omega) h2 c1
        · rw [if_neg c2]
          by_cases c3 : p = j
          · rw [if_pos c3]; exact hq (j - 1) q (by omega) h2 c1
          · rw [if_neg c3]; exact hq p q h1 h2 c1
    · simp only [decide_eq_false c, cond_false]
      refine hk z hz hm (fun p q h1 h2 => ?_)
      by_cases c1 : q = j
      · subst c1
        by_cases c2 : p = q - 1
        · subst c2; omega
        · have := hq p (q - 1) (by omega) (by omega) (by omega); omega
      · exact hq p q h1 (by omega) c1

theorem sort_eq {R : Type} {k : Nat} (K : 2^42 ≤ k) {m : List Bool} {y y1 : List Int} (hn : y.length ≤ 12) (b : Int) (res : Option R) (kr : List Bool × List Int × List Int → Option R)
    (hk : ∀ z, z.length = y.length → (∀ x, x ∈ z ↔ x ∈ y) → UpTo z z.length → kr (m, y1, z) = res) : impl_potsOf.i9001_i1005_l2 k k (0, (y.length : Int), b, true, true, m, y, y1) kr = res := by
  obtain ⟨k, rfl⟩ : ∃ j, k = j + 1 := ⟨k - 1, by omega⟩
  unfold impl_potsOf.i9001_i1005_l2 impl_potsOf.i9001_i1005_s2
  have w0 : IntKind.wrap .i64 ((y.length : Int) - 0) = (y.length : Int) := by rw [Int.sub_zero]; exact wrap_id (by omega) (by omega)
  have d0 : decide ((y.length : Int) ≤ 12) = true := by simp; omega
  have w1 : IntKind.wrap .i64 ((0 : Int) + 1) = ((1 : Nat) : Int) := by decide
  simp only [w0, d0, w1, cond_true]
  refine impl_potsOf.i9001_i1005_i4003_l1_fix (fun v => ∃ (i : Nat) (z : List Int), v = (0, (y.length : Int), (i : Int), m, z, y1) ∧ 1 ≤ i ∧ z.length = y.length ∧ (∀ x, x ∈ z ↔ x ∈ y) ∧ UpTo z (min i y.length)) (fun v => y.length - v.2.2.1.toNat) (fun _ => res) ?_ (k + 1) _ ⟨1, y, rfl, Nat.le_refl _, rfl, fun _ => Iff.rfl, fun p q h1 h2 => by omega⟩ (by omega)
  rintro _ rec ⟨i, z, rfl, hi, hz, hm, hu⟩ hrec
  unfold impl_potsOf.i9001_i1005_i4003_s1
  by_cases h : i < y.length
  · simp only [ltD h, cond_true]
    refine inner_eq K hz h (by omega) (fun p q h1 h2 => hu p q h1 (by omega)) res _ (fun z' hz' hm' hu' => ?_)
    simp only [wrap_succ (show i < 2^62 by omega)]
    exact hrec _ ⟨i + 1, z', rfl, by omega, hz', fun x => (hm' x).trans (hm x), fun p q h1 h2 => hu' p q h1 (by omega)⟩ (by simp only; omega)
  · have c : decide ((i : Int) < (y.length : Int)) = false := by simp; omega
    simp only [c, cond_false]
    exact hk z hz hm (fun p q h1 h2 => hu p q h1 (by omega))

theorem addO_eq : ∀ a b, AM.addO a b = a + b
  | 0, b => by simp [AM.addO]
  | a + 1, b => rfl

theorem getD_take {l : List Int} {c p : Nat} (h : p < c) : (l.take c).getD p 0 = l.getD p 0 := by
  rw [List.getD_eq_getElem?_getD, List.getD_eq_getElem?_getD, List.getElem?_take_of_lt h]

theorem squeeze_eq {R : Type} {k : Nat} (K : 2^42 ≤ k) {m : List Bool} {z y1 : List Int} {x9 : Int} (hl : z.length ≤ 2^40) (hu : UpTo z z.length) {b : Nat} (hb : 1 ≤ b) (hbl : b < z.length) (hs : StrictTo z b) (he : z.getD b 0 = z.getD (b - 1) 0) (res : Option R) (kx2 : Int × List Bool × Int × List Int × List Int → Option R)
    (hk : ∀ (c : Nat) y, c ≤ y.length → y.length = z.length → Strict (y.take c) → (∀ x, x ∈ y.take c ↔ x ∈ z) → kx2 ((c : Int), m, x9, y, y1) = res) : impl_potsOf.i12001_l9 k k ((b : Int), b, z.length - b, 1, m, x9, z, y1) kx2 = res := by
  refine impl_potsOf.i12001_l9_for (z.length - b) (fun j x3 x4o x4n x4097 x4099 y0 y1' => ∃ c : Nat, x3 = (c : Int) ∧ x4o = b ∧ x4n = z.length - b ∧ m = x4097 ∧ x9 = x4099 ∧ y1 = y1' ∧ y0.length = z.length ∧ 1 ≤ c ∧ 1 ≤ j ∧ c ≤ b + j - 1 ∧ (∀ q, b + j - 1 ≤ q → y0.getD q 0 = z.getD q 0) ∧ StrictTo y0 c ∧ y0.getD (c - 1) 0 = z.getD (b + j - 1) 0 ∧ ∀ x, (∃ p, p < c ∧ y0.getD p 0 = x) ↔ ∃ p, p < b + j ∧ z.getD p 0 = x) (fun _ _ _ _ _ _ _ _ => res) ?_ k 1 _ _ _ _ _ _ _ (by omega) ⟨b, rfl, rfl, rfl, rfl, rfl, rfl, rfl, hb, by omega, by omega, fun q _ => rfl, hs, ?_, ?_⟩ (by omega)
  · rintro j _ b _ _ _ y0 _ rec hj ⟨c, rfl, rfl, rfl, rfl, rfl, rfl, hy, hc, hj1, hcb, hq, hst, hlast, hmem⟩ hrec
    unfold impl_potsOf.i12001_s9
    by_cases h : j < z.length - b
    · have wp : IntKind.wrap .i64 ((j : Int) - 1) = ((j - 1 : Nat) : Int) := wrap_pred (by omega) (by omega)
      have h' : j - 1 < z.length - b := by omega
      have a1 : b + j < y0.length := by omega
      have a2 : b + (j - 1) < y0.length := by omega
      have a3 : c < y0.length := by omega
      have g1 := hq (b + j) (by omega)
      have g2 := hq (b + (j - 1)) (by omega)
      have e2 : b + (j - 1) = b + j - 1 := by omega
      have hle := hu (b + (j - 1)) (b + j) (by omega) (by omega)
      simp only [ltD h, ltD h', nn, cond_true, Bool.and_self, wp, Int.toNat_natCast, addO_eq, decide_eq_true a1, decide_eq_true a2, g1, g2, ltD a3, decide_eq_true a3, wrap_succ (show j < 2^62 by omega), wrap_succ (show c < 2^62 by omega)]
      by_cases d : z.getD (b + j) 0 = z.getD (b + (j - 1)) 0
      · have d' : (z.getD (b + j) 0 != z.getD (b + (j - 1)) 0) = false := by rw [bne_eq_false_iff_eq]; exact d
        simp only [d', cond_false]
        refine hrec _ _ _ _ _ _ _ h ⟨c, rfl, rfl, rfl, rfl, rfl, rfl, hy, hc, by omega, by omega, fun q hq' => hq q (by omega), hst, ?_, fun x => (hmem x).trans ?_⟩
        · rw [hlast, ← e2, ← d]; congr 1
        · constructor
          · rintro ⟨p, hp, rfl⟩; exact ⟨p, by omega, rfl⟩
          · rintro ⟨p, hp, rfl⟩
            by_cases cp : p = b + j
            · subst cp; exact ⟨b + (j - 1), by omega, d.symm⟩
            · exact ⟨p, by omega, rfl⟩
      · have d' : (z.getD (b + j) 0 != z.getD (b + (j - 1)) 0) = true := by rw [bne_iff_ne]; exact d
        simp only [d', cond_true]
        have hlt : y0.getD (c - 1) 0 < z.getD (b + j) 0 := by rw [hlast, ← e2]; omega
        refine hrec _ _ _ _ _ _ _ h ⟨c + 1, rfl, rfl, rfl, rfl, rfl, rfl, by simpa using hy, by omega, by omega, by omega, fun q hq' => ?_, ?_, ?_, fun x => ?_⟩
        · rw [set_getD a3, if_neg (by omega)]; exact hq q (by omega)
        · intro p q h1 h2
          rw [set_getD a3, set_getD a3]
          rw [if_neg (show p ≠ c by omega)]
          by_cases cq : q = c
          · rw [if_pos cq]
            by_cases cp : p = c - 1
            · subst cp; exact hlt
            · have := hst p (c - 1) (by omega) (by omega); omega
          · rw [if_neg cq]; exact hst p q h1 (by omega)
        · rw [set_getD a3, if_pos (by omega)]; congr 1
        · constructor
          · rintro ⟨p, hp, rfl⟩
            rw [set_getD a3]
            by_cases cp : p = c
            · rw [if_pos cp]; exact ⟨b + j, by omega, rfl⟩
            · rw [if_neg cp]
              obtain ⟨p', hp', e'⟩ := (hmem _).1 ⟨p, by omega, rfl⟩
              exact ⟨p', by omega, e'⟩
          · rintro ⟨p, hp, rfl⟩
            by_cases cp : p = b + j
            · subst cp; exact ⟨c, by omega, by rw [set_getD a3, if_pos rfl]⟩
            · obtain ⟨p', hp', e'⟩ := (hmem (z.getD p 0)).2 ⟨p, by omega, rfl⟩
              exact ⟨p', by omega, by rw [set_getD a3, if_neg (by omega)]; exact e'⟩
    · have : j = z.length - b := by omega
      subst this
      have c0 : decide ((((z.length - b : Nat)) : Int) < ((z.length - b : Nat) : Int)) = false := by simp
      simp only [c0, cond_false]
      refine hk c y0 (by omega) hy (fun p q h1 h2 => ?_) (fun x => ?_)
      · have hqc : q < c := by rw [List.length_take] at h2; omega
        rw [getD_take (by omega), getD_take hqc]; exact hst p q h1 hqc
      · rw [mem_getD, mem_getD]
        constructor
        · rintro ⟨p, hp, rfl⟩
          rw [List.length_take] at hp
          rw [getD_take (by omega)]
          obtain ⟨p', hp', e'⟩ := (hmem _).1 ⟨p, by omega, rfl⟩
          exact ⟨p', by omega, e'⟩
        · rintro ⟨p, hp, rfl⟩
          obtain ⟨p', hp', e'⟩ := (hmem (z.getD p 0)).2 ⟨p, by omega, rfl⟩
          exact ⟨p', by rw [List.length_take]; omega, by rw [getD_take hp']; exact e'⟩
  · rw [show b + 1 - 1 = b by omega]; exact he.symm
  · intro x
    constructor
    · rintro ⟨p, hp, rfl⟩; exact ⟨p, by omega, rfl⟩
    · rintro ⟨p, hp, rfl⟩
      by_cases cp : p = b
      · subst cp; exact ⟨p - 1, by omega, he.symm⟩
      · exact ⟨p, by omega, rfl⟩

theorem compact_eq {R : Type} {k : Nat} (K : 2^42 ≤ k) {m : List Bool} {z y1 : List Int} {x9 : Int} (hl : z.length ≤ 2^40) (h2 : 2 ≤ z.length) (hu : UpTo z z.length) (res : Option R) (kx0 : List Bool × Int × List Int × List Int → Option R) (kr : Nat × Nat × List Bool × Int × List Int × List Int → Option R)
    (hk : Strict z → kx0 (m, x9, z, y1) = res) (hr : ∀ (c : Nat) y, Strict (y.take c) → (y.take c).length = c → (∀ x, x ∈ y.take c ↔ x ∈ z) → kr (0, c, m, x9, y, y1) = res) : impl_potsOf.i12001_l4 k k (1, m, x9, z, y1) kx0 kr = res := by
  refine impl_potsOf.i12001_l4_for z.length (fun i a b y0 y1' => m = a ∧ x9 = b ∧ z = y0 ∧ y1 = y1' ∧ 1 ≤ i ∧ StrictTo z i) (fun _ _ _ _ _ => res) ?_ k 1 _ _ _ _ (by omega) ⟨rfl, rfl, rfl, rfl, by omega, fun p q h1 h2 => by omega⟩ (by omega)
  rintro i _ _ _ _ rec hi ⟨rfl, rfl, rfl, rfl, hi1, hs⟩ hrec
  unfold impl_potsOf.i12001_s4
  by_cases h : i < z.length
  · have wp : IntKind.wrap .i64 ((i : Int) - 1) = ((i - 1 : Nat) : Int) := wrap_pred (by omega) (by omega)
    have h' : i - 1 < z.length := by omega
    have hle := hu (i - 1) i (by omega) h
    simp only [ltD h, ltD h', nn, cond_true, Bool.and_self, wp, Int.toNat_natCast, decide_eq_true h, decide_eq_true h', wrap_succ (show i < 2^62 by omega), Int.le_refl, decide_true, decide_eq_true (show (i : Int) ≤ (z.length : Int) by omega)]
    by_cases d : z.getD i 0 = z.getD (i - 1) 0
    · have d' : (z.getD i 0 == z.getD (i - 1) 0) = true := by rw [beq_iff_eq]; exact d
      simp only [d', cond_true]
      refine squeeze_eq K hl hu hi1 h hs d res _ (fun c y hc hy hst hm => ?_)
      have hc0 : decide ((c : Int) ≤ (y.length : Int)) = true := by simp; omega
      have e1 : ((y.take c ++ List.replicate (y.length - c) 0) ++ y.drop (c + (y.length - c))) = y.take c ++ List.replicate (y.length - c) 0 := by
        rw [List.drop_eq_nil_of_le (by omega), List.append_nil]
      have e2 : (y.take c ++ List.replicate (y.length - c) 0).length = y.length := by simp; omega
      have e3 : (y.take c ++ List.replicate (y.length - c) (0 : Int)).take c = y.take c := by
        rw [List.take_append_of_le_length (by simp; omega), List.take_take, Nat.min_self]
      simp only [nn, hc0, Int.le_refl, decide_true, Bool.and_self, cond_true, Int.toNat_natCast, e1, e2, Nat.sub_zero]
      exact hr c _ (by rw [e3]; exact hst) (by rw [e3, List.length_take]; omega) (fun x => by rw [e3]; exact hm x)
    · have d' : (z.getD i 0 == z.getD (i - 1) 0) = false := by rw [beq_eq_false_iff_ne]; exact d
      simp only [d', cond_false]
      refine hrec _ _ _ _ h ⟨rfl, rfl, rfl, rfl, by omega, fun p q h1 h2 => ?_⟩
      by_cases cq : q = i
      · subst cq
        by_cases cp : p = q - 1
        · subst cp; omega
        · have := hs p (q - 1) (by omega) (by omega); omega
      · exact hs p q h1 (by omega)
  · have : i = z.length := by omega
    subst this
    have c0 : decide ((z.length : Int) < (z.length : Int)) = false := by simp
    simp only [c0, cond_false]
    exact hk hs

theorem Strict.intro {a : Int} {l : List Int} (h : Strict l) (ha : ∀ x ∈ l, a < x) : Strict (a :: l) := by
  intro p q hpq hq
  obtain ⟨q, rfl⟩ : ∃ q', q = q' + 1 := ⟨q - 1, by omega⟩
  have hq' : q < l.length := by simpa using hq
  cases p with
  | zero =>
    have := ha (l.getD q 0) (mem_getD.2 ⟨q, hq', rfl⟩)
    simpa using this
  | succ p =>
    have := h p q (by omega) hq'
    simpa using this

theorem exStrict : ∀ l : List Int, ∃ L, Strict L ∧ ∀ x, x ∈ L ↔ x ∈ l
  | [] => ⟨[], fun p q _ h => by simp at h, fun _ => Iff.rfl⟩
  | a :: l => by
    obtain ⟨L, hs, hm⟩ := exStrict l
    have ins : ∀ L, Strict L → ∃ M, Strict M ∧ ∀ x, x ∈ M ↔ x = a ∨ x ∈ L := by
      intro L
      induction L with
      | nil => exact fun _ => ⟨[a], Strict.intro (fun p q _ h => by simp at h) (by simp), by simp⟩
      | cons b L ih =>
        intro hb
        have hc := hb.cons
        by_cases c1 : a < b
        · exact ⟨a :: b :: L, Strict.intro hb (fun x hx => by
            rcases List.mem_cons.1 hx with e | e
            · omega
            · have := hc.2 x e; omega), by simp⟩
        · by_cases c2 : a = b
          · refine ⟨b :: L, hb, fun x => ?_⟩
            subst c2; simp
          · obtain ⟨M, h1, h2⟩ := ih hc.1
            refine ⟨b :: M, Strict.intro h1 (fun x hx => ?_), fun x => ?_⟩
            · rcases (h2 x).1 hx with e | e
              · omega
              · exact hc.2 x e
            · simp only [List.mem_cons, h2]
              constructor
              · rintro (e | e | e)
                · exact .inr (.inl e)
                · exact .inl e
                · exact .inr (.inr e)
              · rintro (e | e | e)
                · exact .inr (.inl e)
                · exact .inl e
                · exact .inr (.inr e)
    obtain ⟨M, h1, h2⟩ := ins L hs
    exact ⟨M, h1, fun x => (h2 x).trans (by rw [hm, List.mem_cons])⟩

theorem exLow (L : List Int) (hs : Strict L) (hp : ∀ x ∈ L, 0 < x) : ∀ i, i < L.length → (i : Int) + 1 ≤ L.getD i 0
  | 0, h => by have := hp _ (mem_getD.2 ⟨0, h, rfl⟩); omega
  | i + 1, h => by
    have := exLow L hs hp i (by omega)
    have := hs i (i + 1) (by omega) h
    omega

/-- The levels of payments: what those who have not folded have paid. -/
def Lv (L p : List Int) (m : List Bool) : Prop := Strict L ∧ ∀ x, x ∈ L ↔ ∃ j, j < p.length ∧ m.getD j false = false ∧ 0 < p.getD j 0 ∧ p.getD j 0 = x

theorem Lv.ex (p : List Int) (m : List Bool) : ∃ L, Lv L p m := by
  obtain ⟨L, h1, h2⟩ := exStrict ((List.range p.length).filterMap fun j => if m.getD j false = false ∧ 0 < p.getD j 0 then some (p.getD j 0) else none)
  refine ⟨L, h1, fun x => (h2 x).trans ?_⟩
  simp only [List.mem_filterMap, List.mem_range]
  constructor
  · rintro ⟨j, hj, e⟩
    split at e
    · rename_i c; exact ⟨j, hj, c.1, c.2, by simpa using e⟩
    · simp at e
  · rintro ⟨j, hj, c1, c2, e⟩
    exact ⟨j, hj, by rw [if_pos ⟨c1, c2⟩, e]⟩

theorem Lv.in_ {L p : List Int} {m : List Bool} (h : Lv L p m) (hp : ∀ j, j < p.length → 0 ≤ p.getD j 0 ∧ p.getD j 0 ≤ 600000) : ∀ t, t < L.length → 0 < L.getD t 0 ∧ L.getD t 0 ≤ 600000 := by
  intro t ht
  obtain ⟨j, hj, _, c, e⟩ := (h.2 (L.getD t 0)).1 (mem_getD.2 ⟨t, ht, rfl⟩)
  have := hp j hj
  omega

theorem Lv.len {L p : List Int} {m : List Bool} (h : Lv L p m) (hp : ∀ j, j < p.length → 0 ≤ p.getD j 0 ∧ p.getD j 0 ≤ 600000) : L.length ≤ 600000 := by
  by_cases c : L.length = 0
  · omega
  · have h1 := exLow L h.1 (fun x hx => by obtain ⟨t, ht, rfl⟩ := mem_getD.1 hx; exact (h.in_ hp t ht).1) (L.length - 1) (by omega)
    have h2 := h.in_ hp (L.length - 1) (by omega)
    omega

theorem getD_app1 {l r : List Int} {p : Nat} (h : p < l.length) : (l ++ r).getD p 0 = l.getD p 0 := by
  rw [List.getD_eq_getElem?_getD, List.getD_eq_getElem?_getD, List.getElem?_append_left h]

theorem getD_app2 {l r : List Int} {p : Nat} (h : l.length ≤ p) : (l ++ r).getD p 0 = r.getD (p - l.length) 0 := by
  rw [List.getD_eq_getElem?_getD, List.getD_eq_getElem?_getD, List.getElem?_append_right h]

theorem getD_dr {l : List Int} {a p : Nat} : (l.drop a).getD p 0 = l.getD (a + p) 0 := by
  rw [List.getD_eq_getElem?_getD, List.getD_eq_getElem?_getD, List.getElem?_drop]

theorem sSorted_eq {k : Nat} (K : 2^42 ≤ k) {l L : List Int} (hl : l.length ≤ 2^39) (hn : l.Nodup) (hs : Strict L) (hm : ∀ x, x ∈ L ↔ x ∈ l) : spec_l02Sorted.f k l = some ((L, ()), ()) := by
  unfold spec_l02Sorted.f
  refine spec_l02Sorted.l3_fix (fun v => ∃ (i : Nat) (y : List Int), i ≤ l.length ∧ v = (l, (i : Int), y) ∧ y.length = i ∧ Strict y ∧ ∀ x, x ∈ y ↔ x ∈ l.take i) (fun v => l.length - v.2.1.toNat) (fun _ => some ((L, ()), ())) ?_ k _ ⟨0, [], Nat.zero_le _, rfl, rfl, fun p q _ h => by simp at h, by simp⟩ (by simp only [Int.toNat_zero]; omega)
  rintro _ rec ⟨i, y, hi, rfl, hy, hst, hmem⟩ hrec
  unfold spec_l02Sorted.s3
  by_cases h : i < l.length
  · simp only [ltD h, cond_true]
    have hnot : l.getD i 0 ∉ y := by
      intro hin
      have := (hmem _).1 hin
      rw [getD_lt h] at this
      rw [List.mem_iff_getElem] at this
      obtain ⟨q, hq, e⟩ := this
      rw [List.getElem_take] at e
      have hq' : q < i := by rw [List.length_take] at hq; omega
      exact List.pairwise_iff_getElem.1 hn q i (by omega) h hq' e
    refine spec_l02Sorted.l6_for y.length (fun q a b c => l = a ∧ (i : Int) = b ∧ y = c ∧ ∀ p, p < q → y.getD p 0 ≤ l.getD i 0) (fun _ _ _ _ => some ((L, ()), ())) ?_ k 0 _ _ _ (Nat.zero_le _) ⟨rfl, rfl, rfl, fun p hp => by omega⟩ (by omega)
    rintro q _ _ _ rec' hq ⟨rfl, rfl, rfl, hle⟩ hrec'
    have fin : (q < y.length → l.getD i 0 < y.getD q 0) → rec (l, ((i : Int) + 1), ((([] : List Int) ++ ((y.drop 0).take (q - 0))) ++ [l.getD i 0]) ++ ((y.drop q).take (y.length - q))) = some ((L, ()), ()) := by
      intro hgt
      have e : ((([] : List Int) ++ ((y.drop 0).take (q - 0))) ++ [l.getD i 0]) ++ ((y.drop q).take (y.length - q)) = y.take q ++ (l.getD i 0 :: y.drop q) := by
        rw [List.drop_zero, Nat.sub_zero, List.nil_append, List.append_assoc, List.singleton_append, List.take_of_length_le (l := y.drop q) (by simp)]
      rw [e]
      have e1 : (y.take q).length = q := by rw [List.length_take]; omega
      refine hrec _ ⟨i + 1, _, by omega, rfl, by simp; omega, ?_, fun x => ?_⟩ (by simp only [Int.toNat_natCast]; omega)
      · have g : ∀ p, (y.take q ++ (l.getD i 0 :: y.drop q)).getD p 0 = if p < q then y.getD p 0 else if p = q then l.getD i 0 else y.getD (p - 1) 0 := by
          intro p
          by_cases c1 : p < q
          · rw [if_pos c1, getD_app1 (by omega), getD_take c1]
          · rw [if_neg c1, getD_app2 (by omega), e1]
            by_cases c2 : p = q
            · rw [if_pos c2, c2, Nat.sub_self]; rfl
            · rw [if_neg c2]
              obtain ⟨d, hd⟩ : ∃ d, p - q = d + 1 := ⟨p - q - 1, by omega⟩
              rw [hd, List.getD_cons_succ, getD_dr]
              congr 1
              omega
        intro p r hpr hr
        have hr' : r < y.length + 1 := by
          have hr2 : r < min q y.length + (y.length - q + 1) := by simpa using hr
          omega
        rw [g, g]
        by_cases c1 : r < q
        · rw [if_pos c1, if_pos (by omega)]; exact hst p r hpr (by omega)
        · rw [if_neg c1]
          by_cases c2 : r = q
          · rw [if_pos c2, if_pos (by omega)]
            have h1 := hle p (by omega)
            have h2 : y.getD p 0 ≠ l.getD i 0 := fun e => hnot (e ▸ mem_getD.2 ⟨p, by omega, rfl⟩)
            omega
          · rw [if_neg c2]
            by_cases c3 : p < q
            · rw [if_pos c3]; exact hst p (r - 1) (by omega) (by omega)
            · rw [if_neg c3]
              by_cases c4 : p = q
              · rw [if_pos c4]
                have h1 := hgt (by omega)
                by_cases c5 : r - 1 = q
                · rw [c5]; exact h1
                · have := hst q (r - 1) (by omega) (by omega); omega
              · rw [if_neg c4]; exact hst (p - 1) (r - 1) (by omega) (by omega)
      · rw [← List.take_append_getElem h, List.mem_append, List.mem_append, List.mem_cons, ← hmem, List.mem_singleton, getD_lt h]
        conv => rhs; rw [← List.take_append_drop q y, List.mem_append]
        constructor
        · rintro (e | e | e)
          · exact .inl (.inl e)
          · exact .inr e
          · exact .inl (.inr e)
        · rintro ((e | e) | e)
          · exact .inl e
          · exact .inr (.inr e)
          · exact .inr (.inl e)
    have m1 : decide ((([] : List Int).length + ((y.drop 0).take (q - 0)).length) * 8 ≤ AM.maxBytes) = true := room (by simp; omega) (by omega)
    have m2 : decide (((([] : List Int) ++ (y.drop 0).take (q - 0)).length + [l.getD i 0].length) * 8 ≤ AM.maxBytes) = true := room (by simp; omega) (by omega)
    have m3 : decide ((((([] : List Int) ++ (y.drop 0).take (q - 0)) ++ [l.getD i 0]).length + ((y.drop q).take (y.length - q)).length) * 8 ≤ AM.maxBytes) = true := room (by simp; omega) (by omega)
    have c0 : decide ((q : Int) ≤ (y.length : Int)) = true := by simp; omega
    unfold spec_l02Sorted.s6
    by_cases h' : q < y.length
    · simp only [ltD h', ltD h, nn, Bool.and_self, cond_true, Int.toNat_natCast, decide_eq_true h', wrap_succ (show q < 2^62 by omega)]
      by_cases c : y.getD q 0 ≤ l.getD i 0
      · simp only [decide_eq_true c, cond_true]
        refine hrec' _ _ _ h' ⟨rfl, rfl, rfl, fun p hp => ?_⟩
        by_cases e : p = q
        · subst e; exact c
        · exact hle p (by omega)
      · simp only [decide_eq_false c, cond_false, c0, nn, Int.le_refl, decide_true, Bool.and_self, cond_true, Int.toNat_natCast, ltD h, m1, m2, m3, wrap_succ (show i < 2^62 by omega)]
        exact fin (fun _ => by omega)
    · have h'' : decide ((q : Int) < (y.length : Int)) = false := by simp; omega
      simp only [h'', cond_false, c0, nn, Int.le_refl, decide_true, Bool.and_self, cond_true, Int.toNat_natCast, ltD h, m1, m2, m3, wrap_succ (show i < 2^62 by omega)]
      exact fin (fun e => absurd e h')
  · have : i = l.length := by omega
    subst this
    have c0 : decide ((l.length : Int) < (l.length : Int)) = false := by simp
    simp only [c0, cond_false]
    rw [List.take_length] at hmem
    rw [Strict.uniq hst hs (fun x => (hmem x).trans (hm x).symm)]

theorem sLevels_eq {k : Nat} (K : 2^42 ≤ k) {p L : List Int} {m : List Bool} (hl : p.length ≤ 2^39) (hm : m.length = p.length) (h : Lv L p m) : spec_l12Levels.f k p m = some ((L, ()), ()) := by
  unfold spec_l12Levels.f
  refine spec_l12Levels.l3_for p.length (fun i a b y => p = a ∧ m = b ∧ y.length ≤ i ∧ y.Nodup ∧ ∀ x, x ∈ y ↔ ∃ j, j < i ∧ m.getD j false = false ∧ 0 < p.getD j 0 ∧ p.getD j 0 = x) (fun _ _ _ _ => some ((L, ()), ())) ?_ k 0 _ _ _ (Nat.zero_le _) ⟨rfl, rfl, by simp, by simp, by simp⟩ (by omega)
  rintro i _ _ y rec hi ⟨rfl, rfl, hy, hn, hmem⟩ hrec
  unfold spec_l12Levels.s3
  have ext : ∀ (P : Int → Prop) x, (∃ j, j < i + 1 ∧ m.getD j false = false ∧ 0 < p.getD j 0 ∧ p.getD j 0 = x) ↔ (∃ j, j < i ∧ m.getD j false = false ∧ 0 < p.getD j 0 ∧ p.getD j 0 = x) ∨ (m.getD i false = false ∧ 0 < p.getD i 0 ∧ p.getD i 0 = x) := by
    intro _ x
    constructor
    · rintro ⟨j, hj, e⟩
      by_cases c : j = i
      · subst c; exact .inr e
      · exact .inl ⟨j, by omega, e⟩
    · rintro (⟨j, hj, e⟩ | e)
      · exact ⟨j, by omega, e⟩
      · exact ⟨i, by omega, e⟩
  by_cases h' : i < p.length
  · have hm' : i < m.length := by omega
    have hr : decide ((y.length + 1) * 8 ≤ AM.maxBytes) = true := room (by omega) (by omega)
    simp only [ltD h', ltD hm', nn, Bool.and_self, cond_true, Int.toNat_natCast, wrap_succ (show i < 2^62 by omega), List.length_singleton, hr]
    cases c1 : m.getD i false with
    | true =>
      simp only [Bool.not_true, cond_false]
      exact hrec _ _ _ h' ⟨rfl, rfl, by omega, hn, fun x => (hmem x).trans ⟨fun e => (ext (fun _ => True) x).2 (.inl e), fun e => by
        rcases (ext (fun _ => True) x).1 e with e | e
        · exact e
        · rw [c1] at e; exact absurd e.1 (by simp)⟩⟩
    | false =>
      simp only [Bool.not_false, cond_true]
      by_cases c2 : p.getD i 0 > 0
      · simp only [decide_eq_true c2, cond_true, l01Has_eq K (show y.length ≤ 2^40 by omega), Option.bind_some]
        by_cases c3 : p.getD i 0 ∈ y
        · simp only [decide_eq_true c3, Bool.not_true, cond_false]
          exact hrec _ _ _ h' ⟨rfl, rfl, by omega, hn, fun x => (hmem x).trans ⟨fun e => (ext (fun _ => True) x).2 (.inl e), fun e => by
            rcases (ext (fun _ => True) x).1 e with e | e
            · exact e
            · exact (hmem x).1 (e.2.2 ▸ c3)⟩⟩
        · simp only [decide_eq_false c3, Bool.not_false, cond_true]
          refine hrec _ _ _ h' ⟨rfl, rfl, by simp; omega, ?_, fun x => ?_⟩
          · rw [List.nodup_append]
            refine ⟨hn, by simp, fun a ha b hb => ?_⟩
            rw [List.mem_singleton] at hb
            subst hb
            intro e
            exact c3 (e ▸ ha)
          · rw [List.mem_append, List.mem_singleton, hmem, ext (fun _ => True)]
            constructor
            · rintro (e | e)
              · exact .inl e
              · exact .inr ⟨c1, c2, e.symm⟩
            · rintro (e | e)
              · exact .inl e
              · exact .inr e.2.2.symm
      · simp only [decide_eq_false c2, cond_false]
        exact hrec _ _ _ h' ⟨rfl, rfl, by omega, hn, fun x => (hmem x).trans ⟨fun e => (ext (fun _ => True) x).2 (.inl e), fun e => by
          rcases (ext (fun _ => True) x).1 e with e | e
          · exact e
          · exact absurd e.2.1 c2⟩⟩
  · have : i = p.length := by omega
    subst this
    have c0 : decide ((p.length : Int) < (p.length : Int)) = false := by simp
    simp only [c0, cond_false, sSorted_eq K (show y.length ≤ 2^39 by omega) hn h.1 (fun x => (h.2 x).trans (hmem x).symm), Option.bind_some]

def A (p : List Int) (prev l : Int) (i : Nat) : Int := ((List.range i).map fun j => (if l < p.getD j 0 then l else p.getD j 0) - (if prev < p.getD j 0 then prev else p.getD j 0)).sum

def O (p : List Int) (l : Int) (i : Nat) : Int := ((List.range i).map fun j => p.getD j 0 - (if l < p.getD j 0 then l else p.getD j 0)).sum

def W (p : List Int) (m : List Bool) (l : Int) (i : Nat) : List Int := ((List.range i).filter fun j => !m.getD j false && decide (p.getD j 0 ≥ l)).map fun (j : Nat) => (j : Int)

theorem A_succ (p : List Int) (prev l : Int) (i : Nat) : A p prev l (i + 1) = A p prev l i + ((if l < p.getD i 0 then l else p.getD i 0) - (if prev < p.getD i 0 then prev else p.getD i 0)) := by
  unfold A; rw [List.range_succ, List.map_append, List.sum_append]; simp

theorem O_succ (p : List Int) (l : Int) (i : Nat) : O p l (i + 1) = O p l i + (p.getD i 0 - (if l < p.getD i 0 then l else p.getD i 0)) := by
  unfold O; rw [List.range_succ, List.map_append, List.sum_append]; simp

theorem W_succ (p : List Int) (m : List Bool) (l : Int) (i : Nat) : W p m l (i + 1) = if (!m.getD i false && decide (p.getD i 0 ≥ l)) = true then W p m l i ++ [(i : Int)] else W p m l i := by
  unfold W; rw [List.range_succ, List.filter_append, List.map_append]
  split
  · rename_i c; simp only [List.filter_cons, if_pos c, List.filter_nil, List.map_cons, List.map_nil]
  · rename_i c; simp only [List.filter_cons, if_neg c, List.filter_nil, List.map_nil, List.append_nil]

theorem W_len (p : List Int) (m : List Bool) (l : Int) (i : Nat) : (W p m l i).length ≤ i := by
  unfold W; rw [List.length_map]
  have := List.length_filter_le (fun j => !m.getD j false && decide (p.getD j 0 ≥ l)) (List.range i)
  rw [List.length_range] at this
  exact this

/-- Payments as laid. -/
def Pay (p : List Int) : Prop := ∀ j, j < p.length → 0 ≤ p.getD j 0 ∧ p.getD j 0 ≤ 600000

theorem A_in {p : List Int} (hp : Pay p) {prev l : Int} (h1 : 0 ≤ prev) (h2 : prev ≤ 600000) (h3 : 0 ≤ l) (h4 : l ≤ 600000) : ∀ i, i ≤ p.length → -(600000 * (i : Int)) ≤ A p prev l i ∧ A p prev l i ≤ 600000 * (i : Int)
  | 0, _ => by simp [A]
  | i + 1, h => by
    have := A_in hp h1 h2 h3 h4 i (by omega)
    have := hp i (by omega)
    rw [A_succ]
    split <;> split <;> omega

theorem O_in {p : List Int} (hp : Pay p) {l : Int} (h3 : 0 ≤ l) (h4 : l ≤ 600000) : ∀ i, i ≤ p.length → 0 ≤ O p l i ∧ O p l i ≤ 600000 * (i : Int)
  | 0, _ => by simp [O]
  | i + 1, h => by
    have := O_in hp h3 h4 i (by omega)
    have := hp i (by omega)
    rw [O_succ]
    split <;> omega

def pv (L : List Int) (t : Nat) : Int := if t = 0 then 0 else L.getD (t - 1) 0

def pot (p : List Int) (m : List Bool) (L : List Int) (i t : Nat) : Int × List Int × Unit := (A p (pv L t) (L.getD t 0) p.length + (if t + 1 = L.length then O p (L.getD t 0) i else 0), (W p m (L.getD t 0) p.length, ()))

def potsI (p : List Int) (m : List Bool) (L : List Int) (i T : Nat) : List (Int × List Int × Unit) := (List.range T).map (pot p m L i)

/-- All pots. -/
def potsF (p : List Int) (m : List Bool) (L : List Int) : List (Int × List Int × Unit) := potsI p m L p.length L.length

theorem potsI_len (p : List Int) (m : List Bool) (L : List Int) (i T : Nat) : (potsI p m L i T).length = T := by simp [potsI]

theorem potsI_succ (p : List Int) (m : List Bool) (L : List Int) (i T : Nat) : potsI p m L i (T + 1) = potsI p m L i T ++ [pot p m L i T] := by simp [potsI, List.range_succ]

theorem pv_in {L : List Int} (hL : ∀ t, t < L.length → 0 < L.getD t 0 ∧ L.getD t 0 ≤ 600000) {t : Nat} (h : t ≤ L.length) : 0 ≤ pv L t ∧ pv L t ≤ 600000 := by
  unfold pv
  split
  · omega
  · have := hL (t - 1) (by omega); omega

theorem sPot_eq {R : Type} {k : Nat} (K : 2^42 ≤ k) {p L : List Int} {m : List Bool} (hl : p.length ≤ 6) (hm : m.length = p.length) (hp : Pay p) (hL : ∀ t, t < L.length → 0 < L.getD t 0 ∧ L.getD t 0 ≤ 600000) (hLl : L.length ≤ 600000) {t : Nat} (ht : t < L.length) (y1 : List (Int × List Int × Unit)) (kx2 : List Int × List Bool × Int × List Int × List (Int × List Int × Unit) × Int × List Int → Option R) :
    spec_l12Pots.l10 k k (p, m, pv L t, (t : Int), 0, L, y1, 0, []) kx2 = kx2 (p, m, (t : Int), L, y1, (pot p m L p.length t).1, (pot p m L p.length t).2.1) := by
  have hl1 := hL t ht
  have hpv := pv_in hL (show t ≤ L.length by omega)
  refine spec_l12Pots.l10_for p.length (fun i x0 x1 x7 x8 y0 y1' z y3 => p = x0 ∧ m = x1 ∧ pv L t = x7 ∧ (t : Int) = x8 ∧ L = y0 ∧ y1 = y1' ∧ A p (pv L t) (L.getD t 0) i + (if t + 1 = L.length then O p (L.getD t 0) i else 0) = z ∧ W p m (L.getD t 0) i = y3) (fun _ _ _ _ _ _ _ _ _ => kx2 (p, m, (t : Int), L, y1, (pot p m L p.length t).1, (pot p m L p.length t).2.1)) ?_ k 0 _ _ _ _ _ _ _ _ (Nat.zero_le _) ⟨rfl, rfl, rfl, rfl, rfl, rfl, by simp [A, O], by simp [W]⟩ (by omega)
  rintro i _ _ _ _ _ _ _ _ rec hi ⟨rfl, rfl, rfl, rfl, rfl, rfl, rfl, rfl⟩ hrec
  unfold spec_l12Pots.s10
  by_cases h : i < p.length
  · have hm' : i < m.length := by omega
    have e := hrec _ _ _ _ _ _ _ _ h ⟨rfl, rfl, rfl, rfl, rfl, rfl, rfl, rfl⟩
    rw [A_succ, O_succ, W_succ] at e
    have hA := A_in hp hpv.1 hpv.2 (show 0 ≤ L.getD t 0 by omega) hl1.2 i (by omega)
    have hO := O_in hp (show 0 ≤ L.getD t 0 by omega) hl1.2 i (by omega)
    have hpi := hp i h
    have hW := W_len p m (L.getD t 0) i
    have hr : decide (((W p m (L.getD t 0) i).length + 1) * 8 ≤ AM.maxBytes) = true := room (by omega) (by omega)
    have wl : IntKind.wrap .i64 ((L.length : Int) - 1) = ((L.length - 1 : Nat) : Int) := wrap_pred (by omega) (by omega)
    simp only [ltD h, ltD hm', nn, ltD ht, Bool.and_self, cond_true, Int.toNat_natCast, decide_eq_true ht, wrap_succ (show i < 2^62 by omega), List.length_singleton, hr, wl]
    generalize A p (pv L t) (L.getD t 0) i = a at *
    generalize O p (L.getD t 0) i = o at *
    generalize W p m (L.getD t 0) i = w at *
    have hb1 : 0 ≤ (if L.getD t 0 < p.getD i 0 then L.getD t 0 else p.getD i 0) ∧ (if L.getD t 0 < p.getD i 0 then L.getD t 0 else p.getD i 0) ≤ 600000 := by split <;> omega
    have hb2 : 0 ≤ (if pv L t < p.getD i 0 then pv L t else p.getD i 0) ∧ (if pv L t < p.getD i 0 then pv L t else p.getD i 0) ≤ 600000 := by split <;> omega
    generalize (if L.getD t 0 < p.getD i 0 then L.getD t 0 else p.getD i 0) = b1 at *
    generalize (if pv L t < p.getD i 0 then pv L t else p.getD i 0) = b2 at *
    by_cases c : t + 1 = L.length
    · have c' : ((t : Int) == ((L.length - 1 : Nat) : Int)) = true := by simp; omega
      rw [if_pos c] at e
      have w1 : IntKind.wrap .i64 (a + o + b1) = a + o + b1 := wrap_id (by omega) (by omega)
      have w2 : IntKind.wrap .i64 (a + o + b1 - b2) = a + o + b1 - b2 := wrap_id (by omega) (by omega)
      have w3 : IntKind.wrap .i64 (a + o + b1 - b2 + p.getD i 0) = a + o + b1 - b2 + p.getD i 0 := wrap_id (by omega) (by omega)
      have w4 : IntKind.wrap .i64 (a + o + b1 - b2 + p.getD i 0 - b1) = a + (b1 - b2) + (o + (p.getD i 0 - b1)) := by rw [wrap_id (by omega) (by omega)]; omega
      simp only [c', cond_true, if_pos c, w1, w2, w3, w4]
      cases d1 : m.getD i false with
      | true => simp only [Bool.not_true, cond_false]; rw [d1] at e; exact e
      | false =>
        rw [d1] at e
        simp only [Bool.not_false, cond_true]
        by_cases d2 : p.getD i 0 ≥ L.getD t 0
        · simp only [decide_eq_true d2, cond_true]; rw [decide_eq_true d2] at e; exact e
        · simp only [decide_eq_false d2, cond_false]; rw [decide_eq_false d2] at e; exact e
    · have c' : ((t : Int) == ((L.length - 1 : Nat) : Int)) = false := by simp; omega
      rw [if_neg c] at e
      have w1 : IntKind.wrap .i64 (a + 0 + b1) = a + b1 := by rw [wrap_id (by omega) (by omega)]; omega
      have w2 : IntKind.wrap .i64 (a + b1 - b2) = a + (b1 - b2) + 0 := by rw [wrap_id (by omega) (by omega)]; omega
      simp only [c', cond_false, if_neg c, w1, w2]
      cases d1 : m.getD i false with
      | true => simp only [Bool.not_true, cond_false]; rw [d1] at e; exact e
      | false =>
        rw [d1] at e
        simp only [Bool.not_false, cond_true]
        by_cases d2 : p.getD i 0 ≥ L.getD t 0
        · simp only [decide_eq_true d2, cond_true]; rw [decide_eq_true d2] at e; exact e
        · simp only [decide_eq_false d2, cond_false]; rw [decide_eq_false d2] at e; exact e
  · have : i = p.length := by omega
    subst this
    have c0 : decide ((p.length : Int) < (p.length : Int)) = false := by simp
    simp only [c0, cond_false, pot]

theorem sPots_eq {k : Nat} (K : 2^42 ≤ k) {p L : List Int} {m : List Bool} (hl : p.length ≤ 6) (hm : m.length = p.length) (hp : Pay p) (h : Lv L p m) : spec_l12Pots.f k p m = some ((potsF p m L, ()), ()) := by
  unfold spec_l12Pots.f
  have hL := h.in_ hp
  have hLl := h.len hp
  simp only [sLevels_eq K (show p.length ≤ 2^39 by omega) hm h, Option.bind_some]
  refine spec_l12Pots.l5_fix (fun v => ∃ t : Nat, t ≤ L.length ∧ v = (p, m, pv L t, (t : Int), L, potsI p m L p.length t)) (fun v => L.length - v.2.2.2.1.toNat) (fun _ => some ((potsF p m L, ()), ())) ?_ k _ ⟨0, Nat.zero_le _, rfl⟩ (by simp only [Int.toNat_zero]; omega)
  rintro _ rec ⟨t, ht, rfl⟩ hrec
  unfold spec_l12Pots.s5
  by_cases h' : t < L.length
  · have hr : decide (((potsI p m L p.length t).length + 1) * 32 ≤ AM.maxBytes) = true := room (by rw [potsI_len]; omega) (by omega)
    have e := hrec (p, m, L.getD t 0, ((t : Int) + 1), L, potsI p m L p.length (t + 1)) ⟨t + 1, h', rfl⟩ (by simp only [Int.toNat_natCast]; omega)
    rw [potsI_succ] at e
    simp only [ltD h', cond_true, sPot_eq K hl hm hp hL hLl h', List.length_singleton, hr, nn, Bool.and_self, Int.toNat_natCast, decide_eq_true h', wrap_succ (show t < 2^62 by omega)]
    exact e
  · have : t = L.length := by omega
    subst this
    have c0 : decide ((L.length : Int) < (L.length : Int)) = false := by simp
    simp only [c0, cond_false]
    rfl

/-- Those who have not folded. -/
def lvs (m : List Bool) (i : Nat) : List Int := ((List.range i).filter fun j => !m.getD j false).map fun (j : Nat) => (j : Int)

theorem lvs_succ (m : List Bool) (i : Nat) : lvs m (i + 1) = if m.getD i false = false then lvs m i ++ [(i : Int)] else lvs m i := by
  unfold lvs; rw [List.range_succ, List.filter_append, List.map_append]
  split
  · rename_i c; simp only [List.filter_cons, c, Bool.not_false, if_true, List.filter_nil, List.map_cons, List.map_nil]
  · rename_i c; have c' : m.getD i false = true := by simpa using c
    simp only [List.filter_cons, c', Bool.not_true, Bool.false_eq_true, if_false, List.filter_nil, List.map_nil, List.append_nil]

theorem lvs_len (m : List Bool) (i : Nat) : (lvs m i).length ≤ i := by
  unfold lvs; rw [List.length_map]
  have := List.length_filter_le (fun j => !m.getD j false) (List.range i)
  rw [List.length_range] at this
  exact this

theorem mem_lvs {m : List Bool} {i : Nat} {x : Int} : x ∈ lvs m i ↔ ∃ j : Nat, j < i ∧ m.getD j false = false ∧ (j : Int) = x := by
  unfold lvs
  simp only [List.mem_map, List.mem_filter, List.mem_range, Bool.not_eq_true', and_assoc]

theorem liveSeats_eq {k : Nat} (K : 2^42 ≤ k) {m : List Bool} (hm : m.length ≤ 2^40) : impl_liveSeats.f k m = some ((lvs m m.length, ()), ()) := by
  unfold impl_liveSeats.f
  refine (impl_liveSeats.l3_for m.length (fun i a b y => m = a ∧ (m.length : Int) = b ∧ lvs m i = y) (fun _ _ _ _ => some ((lvs m m.length, ()), ())) ?_ k 0 _ _ _ (Nat.zero_le _) ⟨rfl, rfl, by simp [lvs]⟩ (by omega))
  rintro i _ _ _ rec hi ⟨rfl, rfl, rfl⟩ hrec
  unfold impl_liveSeats.s3
  by_cases h : i < m.length
  · have hl := lvs_len m i
    have hr : decide (((lvs m i).length + 1) * 8 ≤ AM.maxBytes) = true := room (by omega) (by omega)
    have e := hrec _ _ _ h ⟨rfl, rfl, rfl⟩
    rw [lvs_succ] at e
    simp only [ltD h, nn, Bool.and_self, cond_true, Int.toNat_natCast, List.length_singleton, hr, wrap_succ (show i < 2^62 by omega)]
    cases c : m.getD i false with
    | true => rw [c] at e; simp only [Bool.not_true, cond_false]; exact e
    | false => rw [c] at e; simp only [Bool.not_false, cond_true]; exact e
  · have : i = m.length := by omega
    subst this
    have c0 : decide ((m.length : Int) < (m.length : Int)) = false := by simp
    simp only [c0, cond_false]

theorem gather_eq {R : Type} {k : Nat} (K : 2^42 ≤ k) {p L : List Int} {m : List Bool} (hl : p.length ≤ 6) (hm : m.length = p.length) (h : Lv L p m) (res : Option R) (kx0 : List Bool × List Int × List Int → Option R)
    (hk : ∀ z, z.length ≤ 6 → (∀ x, x ∈ z ↔ x ∈ L) → kx0 (m, p, z) = res) : impl_potsOf.l4 k k (m, ((lvs m m.length).length : Int), 0, p, [], lvs m m.length) kx0 = res := by
  have hsl := lvs_len m m.length
  refine impl_potsOf.l4_for (lvs m m.length).length (fun i a b y0 y1 y2 => m = a ∧ ((lvs m m.length).length : Int) = b ∧ p = y0 ∧ lvs m m.length = y2 ∧ y1.length ≤ i ∧ ∀ x, x ∈ y1 ↔ ∃ t, t < i ∧ 0 < p.getD ((lvs m m.length).getD t 0).toNat 0 ∧ p.getD ((lvs m m.length).getD t 0).toNat 0 = x) (fun _ _ _ _ _ _ => res) ?_ k 0 _ _ _ _ _ (Nat.zero_le _) ⟨rfl, rfl, rfl, rfl, by simp, by simp⟩ (by omega)
  rintro i _ _ _ y _ rec hi ⟨rfl, rfl, rfl, rfl, hy, hmem⟩ hrec
  unfold impl_potsOf.s4
  by_cases h' : i < (lvs m m.length).length
  · obtain ⟨j, hj, hjl, hje⟩ := mem_lvs.1 (mem_getD.2 ⟨i, h', rfl⟩ : (lvs m m.length).getD i 0 ∈ lvs m m.length)
    have hjp : j < p.length := by omega
    have hr : decide ((y.length + 1) * 8 ≤ AM.maxBytes) = true := room (by omega) (by omega)
    have hje' := hje.symm
    simp only [ltD h', nn, Bool.and_self, cond_true, Int.toNat_natCast, decide_eq_true h', hje', ltD hjp, decide_eq_true hjp, List.length_singleton, hr, wrap_succ (show i < 2^62 by omega)]
    have ext : ∀ x, (∃ t, t < i + 1 ∧ 0 < p.getD ((lvs m m.length).getD t 0).toNat 0 ∧ p.getD ((lvs m m.length).getD t 0).toNat 0 = x) ↔ (∃ t, t < i ∧ 0 < p.getD ((lvs m m.length).getD t 0).toNat 0 ∧ p.getD ((lvs m m.length).getD t 0).toNat 0 = x) ∨ (0 < p.getD j 0 ∧ p.getD j 0 = x) := by
      intro x
      constructor
      · rintro ⟨t, ht, e⟩
        by_cases c : t = i
        · subst c; rw [hje', Int.toNat_natCast] at e; exact .inr e
        · exact .inl ⟨t, by omega, e⟩
      · rintro (⟨t, ht, e⟩ | e)
        · exact ⟨t, by omega, e⟩
        · exact ⟨i, by omega, by rw [hje', Int.toNat_natCast]; exact e⟩
    by_cases c : p.getD j 0 > 0
    · simp only [decide_eq_true c, cond_true]
      refine hrec _ _ _ _ _ h' ⟨rfl, rfl, rfl, rfl, by simp; omega, fun x => ?_⟩
      rw [List.mem_append, List.mem_singleton, hmem, ext]
      constructor
      · rintro (e | e)
        · exact .inl e
        · exact .inr ⟨c, e.symm⟩
      · rintro (e | e)
        · exact .inl e
        · exact .inr e.2.symm
    · simp only [decide_eq_false c, cond_false]
      refine hrec _ _ _ _ _ h' ⟨rfl, rfl, rfl, rfl, by omega, fun x => ?_⟩
      rw [hmem, ext]
      constructor
      · exact .inl
      · rintro (e | e)
        · exact e
        · exact absurd e.1 c
  · have : i = (lvs m m.length).length := by omega
    subst this
    have c0 : decide (((lvs m m.length).length : Int) < ((lvs m m.length).length : Int)) = false := by simp
    simp only [c0, cond_false]
    refine hk y (by omega) (fun x => ?_)
    rw [hmem, h.2]
    constructor
    · rintro ⟨t, ht, c, e⟩
      obtain ⟨j, hj, hjl, hje⟩ := mem_lvs.1 (mem_getD.2 ⟨t, ht, rfl⟩ : (lvs m m.length).getD t 0 ∈ lvs m m.length)
      rw [← hje, Int.toNat_natCast] at c e
      exact ⟨j, by omega, hjl, c, e⟩
    · rintro ⟨j, hj, hjl, c, e⟩
      obtain ⟨t, ht, he⟩ := mem_getD.1 (mem_lvs.2 ⟨j, by omega, hjl, rfl⟩ : (j : Int) ∈ lvs m m.length)
      exact ⟨t, ht, by rw [he, Int.toNat_natCast]; exact ⟨c, e⟩⟩

theorem iPot_eq {R : Type} {k : Nat} (K : 2^42 ≤ k) {p L : List Int} {m : List Bool} (hl : p.length ≤ 6) (hm : m.length = p.length) (hp : Pay p) {prev l : Int} (h1 : 0 ≤ prev) (h2 : prev ≤ 600000) (h3 : 0 ≤ l) (h4 : l ≤ 600000) (ln t : Int) (y1 : List (Int × List Int × Unit)) (kx4 : List Bool × Int × List Int × Int × Int × List Int × List (Int × List Int × Unit) × List Int × Int → Option R) :
    impl_potsOf.l17 k k (m, prev, l, L, ln, t, (p.length : Int), 0, p, y1, [], 0) kx4 = kx4 (m, l, L, ln, t, p, y1, W p m l p.length, A p prev l p.length) := by
  refine impl_potsOf.l17_for p.length (fun i x1 x9 x11 x42 x43 x44 x49 y0 y1' y2 z => m = x1 ∧ prev = x9 ∧ l = x11 ∧ L = x42 ∧ ln = x43 ∧ t = x44 ∧ (p.length : Int) = x49 ∧ p = y0 ∧ y1 = y1' ∧ W p m l i = y2 ∧ A p prev l i = z) (fun _ _ _ _ _ _ _ _ _ _ _ _ => kx4 (m, l, L, ln, t, p, y1, W p m l p.length, A p prev l p.length)) ?_ k 0 _ _ _ _ _ _ _ _ _ _ _ (Nat.zero_le _) ⟨rfl, rfl, rfl, rfl, rfl, rfl, rfl, rfl, rfl, by simp [W], by simp [A]⟩ (by omega)
  rintro i _ _ _ _ _ _ _ _ _ _ _ rec hi ⟨rfl, rfl, rfl, rfl, rfl, rfl, rfl, rfl, rfl, rfl, rfl⟩ hrec
  unfold impl_potsOf.s17
  by_cases h : i < p.length
  · have hm' : i < m.length := by omega
    have e := hrec _ _ _ _ _ _ _ _ _ _ _ h ⟨rfl, rfl, rfl, rfl, rfl, rfl, rfl, rfl, rfl, rfl, rfl⟩
    rw [A_succ, W_succ] at e
    have hA := A_in hp h1 h2 h3 h4 i (by omega)
    have hpi := hp i h
    have hW := W_len p m l i
    have hr : decide (((W p m l i).length + 1) * 8 ≤ AM.maxBytes) = true := room (by omega) (by omega)
    simp only [ltD h, ltD hm', nn, Bool.and_self, cond_true, Int.toNat_natCast, decide_eq_true h, wrap_succ (show i < 2^62 by omega), List.length_singleton, hr]
    generalize A p prev l i = a at *
    generalize W p m l i = w at *
    have hb1 : 0 ≤ (if l < p.getD i 0 then l else p.getD i 0) ∧ (if l < p.getD i 0 then l else p.getD i 0) ≤ 600000 := by split <;> omega
    have hb2 : 0 ≤ (if prev < p.getD i 0 then prev else p.getD i 0) ∧ (if prev < p.getD i 0 then prev else p.getD i 0) ≤ 600000 := by split <;> omega
    generalize (if l < p.getD i 0 then l else p.getD i 0) = b1 at *
    generalize (if prev < p.getD i 0 then prev else p.getD i 0) = b2 at *
    have w1 : IntKind.wrap .i64 (b1 - b2) = b1 - b2 := wrap_id (by omega) (by omega)
    have w2 : IntKind.wrap .i64 (a + (b1 - b2)) = a + (b1 - b2) := wrap_id (by omega) (by omega)
    simp only [w1, w2]
    cases d1 : m.getD i false with
    | true => simp only [Bool.not_true, cond_false]; rw [d1] at e; exact e
    | false =>
      rw [d1] at e
      simp only [Bool.not_false, cond_true]
      by_cases d2 : p.getD i 0 ≥ l
      · simp only [decide_eq_true d2, cond_true]; rw [decide_eq_true d2] at e; exact e
      · simp only [decide_eq_false d2, cond_false]; rw [decide_eq_false d2] at e; exact e
  · have : i = p.length := by omega
    subst this
    have c0 : decide ((p.length : Int) < (p.length : Int)) = false := by simp
    simp only [c0, cond_false]

theorem pot_zero (p : List Int) (m : List Bool) (L : List Int) (t : Nat) : pot p m L 0 t = (A p (pv L t) (L.getD t 0) p.length, (W p m (L.getD t 0) p.length, ())) := by
  simp [pot, O]

theorem iPots0_eq {R : Type} {k : Nat} (K : 2^42 ≤ k) {p L : List Int} {m : List Bool} (hl : p.length ≤ 6) (hm : m.length = p.length) (hp : Pay p) (h : Lv L p m) (kx2 : Int × List Int × List (Int × List Int × Unit) → Option R) :
    impl_potsOf.l13 k k (m, 0, L, (L.length : Int), 0, p, []) kx2 = kx2 (pv L L.length, p, potsI p m L 0 L.length) := by
  have hL := h.in_ hp
  have hLl := h.len hp
  refine impl_potsOf.l13_fix (fun v => ∃ t : Nat, t ≤ L.length ∧ v = (m, pv L t, L, (L.length : Int), (t : Int), p, potsI p m L 0 t)) (fun v => L.length - v.2.2.2.2.1.toNat) (fun _ => kx2 (pv L L.length, p, potsI p m L 0 L.length)) ?_ k _ ⟨0, Nat.zero_le _, rfl⟩ (by simp only [Int.toNat_zero]; omega)
  rintro _ rec ⟨t, ht, rfl⟩ hrec
  unfold impl_potsOf.s13
  by_cases h' : t < L.length
  · have hr : decide (((potsI p m L 0 t).length + 1) * 32 ≤ AM.maxBytes) = true := room (by rw [potsI_len]; omega) (by omega)
    have e := hrec (m, L.getD t 0, L, (L.length : Int), ((t : Int) + 1), p, potsI p m L 0 (t + 1)) ⟨t + 1, h', rfl⟩ (by simp only [Int.toNat_natCast]; omega)
    rw [potsI_succ, pot_zero] at e
    have hl1 := hL t h'
    have hpv := pv_in hL (show t ≤ L.length by omega)
    simp only [ltD h', cond_true, nn, Bool.and_self, Int.toNat_natCast, iPot_eq K hl hm hp hpv.1 hpv.2 (show 0 ≤ L.getD t 0 by omega) hl1.2, List.length_singleton, hr, wrap_succ (show t < 2^62 by omega)]
    exact e
  · have : t = L.length := by omega
    subst this
    have c0 : decide ((L.length : Int) < (L.length : Int)) = false := by simp
    simp only [c0, cond_false]

theorem potsI_getD {p : List Int} {m : List Bool} {L : List Int} {i T t : Nat} (h : t < T) (d : Int × List Int × Unit) : (potsI p m L i T).getD t d = pot p m L i t := by
  rw [getD_lt (by rw [potsI_len]; exact h)]
  simp [potsI]

theorem iLast_eq {R : Type} {k : Nat} (K : 2^42 ≤ k) {p L : List Int} {m : List Bool} (hl : p.length ≤ 6) (hm : m.length = p.length) (hp : Pay p) (h : Lv L p m) (hT : 0 < L.length) (kx6 : List (Int × List Int × Unit) → Option R) :
    impl_potsOf.l28 k k (pv L L.length, (p.length : Int), 0, potsI p m L 0 L.length, p) kx6 = kx6 (potsF p m L) := by
  have hL := h.in_ hp
  have hLl := h.len hp
  have hlast : pv L L.length = L.getD (L.length - 1) 0 := by unfold pv; rw [if_neg (by omega)]
  have hl1 := hL (L.length - 1) (by omega)
  have hpv := pv_in hL (show L.length - 1 ≤ L.length by omega)
  refine impl_potsOf.l28_for p.length (fun i x9 x93 y0 y1 => pv L L.length = x9 ∧ (p.length : Int) = x93 ∧ potsI p m L i L.length = y0 ∧ p = y1) (fun _ _ _ _ _ => kx6 (potsF p m L)) ?_ k 0 _ _ _ _ (Nat.zero_le _) ⟨rfl, rfl, rfl, rfl⟩ (by omega)
  rintro i _ _ _ _ rec hi ⟨rfl, rfl, rfl, rfl⟩ hrec
  unfold impl_potsOf.s28
  by_cases h' : i < p.length
  · have wl : IntKind.wrap .i64 ((L.length : Int) - 1) = ((L.length - 1 : Nat) : Int) := wrap_pred (by omega) (by omega)
    have hT' : L.length - 1 < L.length := by omega
    have hpi := hp i h'
    have hA := A_in hp hpv.1 hpv.2 (show 0 ≤ L.getD (L.length - 1) 0 by omega) hl1.2 p.length (Nat.le_refl _)
    have hO := O_in hp (show 0 ≤ L.getD (L.length - 1) 0 by omega) hl1.2 i (by omega)
    have e := hrec _ _ _ _ h' ⟨rfl, rfl, rfl, rfl⟩
    have key : ∀ x, x = A p (pv L (L.length - 1)) (L.getD (L.length - 1) 0) p.length + O p (L.getD (L.length - 1) 0) (i + 1) → (potsI p m L i L.length).set (L.length - 1) (x, ((pot p m L i (L.length - 1)).2.1, ())) = potsI p m L (i + 1) L.length := by
      intro x hx
      apply List.ext_getElem
      · rw [List.length_set, potsI_len, potsI_len]
      · intro q h1 h2
        rw [potsI_len] at h2
        rw [List.getElem_set]
        by_cases c : L.length - 1 = q
        · rw [if_pos c]
          subst c
          simp only [potsI, List.getElem_map, List.getElem_range]
          simp only [pot, if_pos (show L.length - 1 + 1 = L.length by omega), hx]
        · rw [if_neg c]
          simp only [potsI, List.getElem_map, List.getElem_range]
          simp only [pot, if_neg (show ¬ q + 1 = L.length by omega)]
    have w1 : IntKind.wrap .i64 (p.getD i 0 - L.getD (L.length - 1) 0) = p.getD i 0 - L.getD (L.length - 1) 0 := wrap_id (by omega) (by omega)
    have hd : (pot p m L i (L.length - 1)).1 = A p (pv L (L.length - 1)) (L.getD (L.length - 1) 0) p.length + O p (L.getD (L.length - 1) 0) i := by simp only [pot, if_pos (show L.length - 1 + 1 = L.length by omega)]
    simp only [ltD h', nn, Bool.and_self, cond_true, Int.toNat_natCast, decide_eq_true h', potsI_len, wl, ltD hT', decide_eq_true hT', potsI_getD hT', hlast, w1, wrap_succ (show i < 2^62 by omega)]
    rw [key]
    · rw [hlast] at e; exact e
    · rw [hd, O_succ]
      by_cases c : L.getD (L.length - 1) 0 < p.getD i 0
      · rw [if_pos c, if_pos (by omega), wrap_id (by omega) (by omega)]; omega
      · rw [if_neg c, if_neg (by omega), wrap_id (by omega) (by omega)]; omega
  · have : i = p.length := by omega
    subst this
    have c0 : decide ((p.length : Int) < (p.length : Int)) = false := by simp
    simp only [c0, cond_false]
    rfl

set_option maxRecDepth 100000 in
theorem bits_Len_ok (k : Nat) {n : Nat} (h : n ≤ 6) : ∃ r, bits_Len.f k (IntKind.wrap .u64 (n : Int)) = some ((r, ()), ()) := by
  have : n = 0 ∨ n = 1 ∨ n = 2 ∨ n = 3 ∨ n = 4 ∨ n = 5 ∨ n = 6 := by omega
  rcases this with rfl | rfl | rfl | rfl | rfl | rfl | rfl <;> exact ⟨_, rfl⟩

theorem iPots_eq {k : Nat} (K : 2^42 ≤ k) {l L : List Int} {m : List Bool} {b : Nat} (hb : IsBest l l.length b) (hl : l.length ≤ 6) (hm : m.length = l.length) (hp : Pay (refL l b)) (h : Lv L (refL l b) m) : impl_potsOf.f k l m = some ((potsF (refL l b) m L, ()), ()) := by
  unfold impl_potsOf.f
  have hrl : (refL l b).length = l.length := by simp [refL]
  simp only [iRefund_eq K (show l.length ≤ 2^40 by omega) hb, liveSeats_eq K (show m.length ≤ 2^40 by omega), Option.bind_some]
  generalize refL l b = p at *
  refine gather_eq K (by omega) (by omega) h _ _ (fun z hz hzm => ?_)
  obtain ⟨r, hr⟩ := bits_Len_ok k hz
  simp only [hr, Option.bind_some]
  refine sort_eq K (by omega) r _ _ (fun y hy hym hyu => ?_)
  have hyL : ∀ x, x ∈ y ↔ x ∈ L := fun x => (hym x).trans (hzm x)
  by_cases c : y.length < 2
  · have c' : decide ((y.length : Int) < 2) = true := by simp; omega
    have hs : Strict y := fun p q h1 h2 => by omega
    have := Strict.uniq hs h.1 hyL
    subst this
    simp only [c', cond_true, iPots0_eq K (show p.length ≤ 6 by omega) (show m.length = p.length by omega) hp h, potsI_len]
    by_cases c2 : 0 < y.length
    · simp only [gt0 c2, cond_true, iLast_eq K (show p.length ≤ 6 by omega) (show m.length = p.length by omega) hp h c2]
    · simp only [not_gt0 c2, cond_false]
      have : y = [] := List.eq_nil_of_length_eq_zero (by omega)
      subst this
      rfl
  · have c' : decide ((y.length : Int) < 2) = false := by simp; omega
    simp only [c', cond_false]
    have fin : ∀ kk : Unit, impl_potsOf.l13 (R := (List (Int × List Int × Unit) × Unit) × Unit) k k (m, 0, L, (L.length : Int), 0, p, []) (fun x => match x with | (o29, o30, o31) => (bif (decide (((o31.length : Nat) : Int) > (0 : Int))) then (impl_potsOf.l28 k k (o29, ((o30.length : Nat) : Int), (0 : Int), o31, o30) (fun o32 => (some ((o32, ()), ())))) else (some ((o31, ()), ())))) = some ((potsF p m L, ()), ()) := by
      intro _
      simp only [iPots0_eq K (show p.length ≤ 6 by omega) (show m.length = p.length by omega) hp h, potsI_len]
      by_cases c2 : 0 < L.length
      · simp only [gt0 c2, cond_true, iLast_eq K (show p.length ≤ 6 by omega) (show m.length = p.length by omega) hp h c2]
      · simp only [not_gt0 c2, cond_false]
        have : L = [] := List.eq_nil_of_length_eq_zero (by omega)
        subst this
        rfl
    refine compact_eq K (by omega) (by omega) hyu _ _ _ (fun hs => ?_) (fun c y' hs hc hcm => ?_)
    · have := Strict.uniq hs h.1 hyL
      subst this
      exact fin ()
    · have := Strict.uniq hs h.1 (fun x => (hcm x).trans (hyL x))
      simp only [List.drop_zero, this]
      rw [this] at hc
      subst hc
      exact fin ()

theorem secGo_in (b : Nat) : ∀ (l : List Int) (i : Nat) (s : Int), (∀ x ∈ l, 0 ≤ x ∧ x ≤ 600000) → 0 ≤ s → s ≤ 600000 → 0 ≤ secGo b i l s ∧ secGo b i l s ≤ 600000
  | [], _, s, _, h0, h1 => ⟨h0, h1⟩
  | x :: r, i, s, h, h0, h1 => by
    have hx := h x (by simp)
    rw [secGo]
    apply secGo_in b r (i + 1) _ (fun y hy => h y (by simp [hy]))
    · split
      · exact h0
      · split <;> omega
    · split
      · exact h1
      · split <;> omega

theorem refL_pay {l : List Int} {b : Nat} (hl : l.all (inB 0 600000) = true) (hb : IsBest l l.length b) : Pay (refL l b) := by
  have hin : ∀ x ∈ l, 0 ≤ x ∧ x ≤ 600000 := all_inB hl
  have hg : ∀ j, j < l.length → 0 ≤ l.getD j 0 ∧ l.getD j 0 ≤ 600000 := fun j hj => hin _ (mem_getD.2 ⟨j, hj, rfl⟩)
  have hs := secGo_in b l 0 0 hin (by omega) (by omega)
  have hbl := hg b hb.1
  intro j hj
  have hj' : j < l.length := by simpa [refL] using hj
  have hgj := hg j hj'
  have h0 := hg 0 (by omega)
  unfold refL uncR
  split
  · rw [Int.toNat_zero, set_getD (by omega), Int.sub_zero, wrap_id (by omega) (by omega)]
    split
    · exact h0
    · exact hgj
  · simp only [Int.toNat_natCast]
    have w1 : IntKind.wrap .i64 (l.getD b 0 - secGo b 0 l 0) = l.getD b 0 - secGo b 0 l 0 := wrap_id (by omega) (by omega)
    rw [set_getD hb.1, w1, wrap_id (by omega) (by omega)]
    split
    · omega
    · exact hgj

/-- The pots of payments, as both have them. -/
theorem pots_both0 {k : Nat} (K : 2^42 ≤ k) {l : List Int} {m : List Bool} (h : pays l m = true) : ∃ (b : Nat) (L : List Int), IsBest l l.length b ∧ Pay (refL l b) ∧ Lv L (refL l b) m ∧ (refL l b).length = l.length ∧ spec_l12Refund.f k l = some ((refL l b, ()), ()) ∧ spec_l12Pots.f k (refL l b) m = some ((potsF (refL l b) m L, ()), ()) ∧ impl_potsOf.f k l m = some ((potsF (refL l b) m L, ()), ()) := by
  obtain ⟨p1, p2, p3, p4⟩ := pays_len h
  obtain ⟨b, hb⟩ := IsBest.ex l l.length (by omega)
  obtain ⟨L, hL⟩ := Lv.ex (refL l b) m
  have hp := refL_pay p3 hb
  have hrl : (refL l b).length = l.length := by simp [refL]
  have e1 := sRefund_eq K (show l.length ≤ 2^40 by omega) hb
  have e2 := sPots_eq K (show (refL l b).length ≤ 6 by omega) (show m.length = (refL l b).length by omega) hp hL
  exact ⟨b, L, hb, hp, hL, hrl, e1, e2, iPots_eq K hb (by omega) (by omega) hp hL⟩

theorem pots_both {k : Nat} (K : 2^42 ≤ k) {l : List Int} {m : List Bool} (h : pays l m = true) : ∃ (b : Nat) (L : List Int), IsBest l l.length b ∧ Pay (refL l b) ∧ Lv L (refL l b) m ∧ (refL l b).length = l.length ∧ spec_PotsOf.f k l m = some ((potsF (refL l b) m L, 0, ()), ()) ∧ spec_l12Refund.f k l = some ((refL l b, ()), ()) ∧ spec_l12Pots.f k (refL l b) m = some ((potsF (refL l b) m L, ()), ()) ∧ impl_potsOf.f k l m = some ((potsF (refL l b) m L, ()), ()) := by
  have p2 := pays_len h
  obtain ⟨b, L, hb, hp, hL, hrl, e1, e2, e3⟩ := pots_both0 K h
  refine ⟨b, L, hb, hp, hL, hrl, ?_, e1, e2, e3⟩
  unfold spec_PotsOf.f
  simp only [sArePayments_eq K (show l.length ≤ 2^40 by omega), h, Option.bind_some, Bool.not_true, cond_false, e1, e2]

/-- What is in the pots that a seat can win. -/
def shRun (P : List (Int × List Int × Unit)) (x : Int) (i : Nat) : Int := (P.take i).foldl (fun s q => if x ∈ q.2.1 then IntKind.wrap .i64 (s + q.1) else s) 0

theorem shRun_succ {P : List (Int × List Int × Unit)} {x : Int} {i : Nat} (h : i < P.length) : shRun P x (i + 1) = if x ∈ P[i].2.1 then IntKind.wrap .i64 (shRun P x i + P[i].1) else shRun P x i := by
  unfold shRun; rw [← List.take_append_getElem h, List.foldl_append]; rfl

theorem sShare_eq {R : Type} {k : Nat} (K : 2^42 ≤ k) {P : List (Int × List Int × Unit)} (hP : P.length ≤ 2^40) (hw : ∀ q ∈ P, q.2.1.length ≤ 2^40) (x : Int) (kx0 : Int → Option R) : spec_ShareIn.l8 k k (x, 0, 0, P) kx0 = kx0 (shRun P x P.length) := by
  refine spec_ShareIn.l8_for P.length (fun i a b c => x = a ∧ shRun P x i = b ∧ P = c) (fun _ _ _ _ => kx0 (shRun P x P.length)) ?_ k 0 _ _ _ (Nat.zero_le _) ⟨rfl, rfl, rfl⟩ (by omega)
  rintro i _ _ _ rec hi ⟨rfl, rfl, rfl⟩ hrec
  unfold spec_ShareIn.s8
  by_cases h : i < P.length
  · have e := hrec _ _ _ h ⟨rfl, rfl, rfl⟩
    rw [shRun_succ h] at e
    simp only [ltD h, nn, Bool.and_self, cond_true, Int.toNat_natCast, getD_lt h, decide_eq_true h, l01Has_eq K (hw _ (List.getElem_mem h)), Option.bind_some, wrap_succ (show i < 2^62 by omega)]
    by_cases c : x ∈ P[i].2.1
    · rw [if_pos c] at e
      simp only [decide_eq_true c, cond_true]; exact e
    · rw [if_neg c] at e
      simp only [decide_eq_false c, cond_false]; exact e
  · have : i = P.length := by omega
    subst this
    have c0 : decide ((P.length : Int) < (P.length : Int)) = false := by simp
    simp only [c0, cond_false]

theorem iShare_eq {R : Type} {k : Nat} (K : 2^42 ≤ k) {P : List (Int × List Int × Unit)} (hP : P.length ≤ 2^40) (hw : ∀ q ∈ P, q.2.1.length ≤ 2^40) (x : Int) (kx0 : Int → Option R) : impl_ShareIn.l7 k k (x, 0, (P.length : Int), 0, P) kx0 = kx0 (shRun P x P.length) := by
  refine impl_ShareIn.l7_for P.length (fun i a b n c => x = a ∧ shRun P x i = b ∧ (P.length : Int) = n ∧ P = c) (fun _ _ _ _ _ => kx0 (shRun P x P.length)) ?_ k 0 _ _ _ _ (Nat.zero_le _) ⟨rfl, rfl, rfl, rfl⟩ (by omega)
  rintro i _ _ _ _ rec hi ⟨rfl, rfl, rfl, rfl⟩ hrec
  unfold impl_ShareIn.s7
  by_cases h : i < P.length
  · have e := hrec _ _ _ _ h ⟨rfl, rfl, rfl, rfl⟩
    rw [shRun_succ h] at e
    simp only [ltD h, nn, Bool.and_self, cond_true, Int.toNat_natCast, getD_lt h, decide_eq_true h, contains_eq K (hw _ (List.getElem_mem h)), Option.bind_some, wrap_succ (show i < 2^62 by omega)]
    by_cases c : x ∈ P[i].2.1
    · rw [if_pos c] at e
      simp only [decide_eq_true c, cond_true]; exact e
    · rw [if_neg c] at e
      simp only [decide_eq_false c, cond_false]; exact e
  · have : i = P.length := by omega
    subst this
    have c0 : decide ((P.length : Int) < (P.length : Int)) = false := by simp
    simp only [c0, cond_false]

theorem potsF_sz {p L : List Int} {m : List Bool} (hl : p.length ≤ 6) (hp : Pay p) (h : Lv L p m) : (potsF p m L).length ≤ 2^40 ∧ ∀ q ∈ potsF p m L, q.2.1.length ≤ 2^40 := by
  have := h.len hp
  refine ⟨by unfold potsF; rw [potsI_len]; omega, fun q hq => ?_⟩
  unfold potsF potsI at hq
  obtain ⟨t, _, rfl⟩ := List.mem_map.1 hq
  have := W_len p m (L.getD t 0) p.length
  simp only [pot]
  omega

theorem mem_W {p : List Int} {m : List Bool} {l : Int} {n : Nat} {x : Int} : x ∈ W p m l n ↔ ∃ j : Nat, j < n ∧ (m.getD j false = false ∧ p.getD j 0 ≥ l) ∧ (j : Int) = x := by
  unfold W
  simp only [List.mem_map, List.mem_filter, List.mem_range, Bool.and_eq_true, Bool.not_eq_true', decide_eq_true_eq, and_assoc]

theorem A_nonneg (p : List Int) {prev l : Int} (h : prev ≤ l) : ∀ i, 0 ≤ A p prev l i
  | 0 => by simp [A]
  | i + 1 => by
    have := A_nonneg p h i
    rw [A_succ]
    split <;> split <;> omega

theorem pv_le {L : List Int} (hs : Strict L) (hL : ∀ t, t < L.length → 0 < L.getD t 0 ∧ L.getD t 0 ≤ 600000) {t : Nat} (ht : t < L.length) : pv L t ≤ L.getD t 0 := by
  unfold pv
  split
  · have := hL t ht; omega
  · have := hs (t - 1) t (by omega) ht; omega

/-- A source of numbers. -/
def Src (z : List Int) (a b : Int) : Prop := (∀ i, i < z.length → 0 ≤ z.getD i 0 ∧ z.getD i 0 < 256) ∧ z.length ≤ 2^40 ∧ 0 ≤ a ∧ a ≤ z.length ∧ 0 ≤ b ∧ b < 2147483647

theorem tmod_in {x n : Int} (hx : 0 ≤ x) (hn : 0 < n) : 0 ≤ Int.tmod x n ∧ Int.tmod x n < n := ⟨Int.tmod_nonneg _ hx, Int.tmod_lt_of_pos _ hn⟩

theorem next_ok {k : Nat} {z : List Int} {a b : Int} (hs : Src z a b) {n : Int} (hn : n ≤ 2^31) : ∃ r c d, spec_l01Next.f k (z, (a, (b, ()))) n = some ((r, ()), ((z, (c, (d, ()))), ())) ∧ 0 ≤ r ∧ (r < n ∨ r = 0) ∧ Src z c d := by
  obtain ⟨h1, h2, h3, h4, h5, h6⟩ := hs
  unfold spec_l01Next.f
  by_cases c1 : n ≤ 1
  · simp only [decide_eq_true c1, cond_true]
    exact ⟨0, a, b, rfl, by omega, .inr rfl, h1, h2, h3, h4, h5, h6⟩
  have d1 : decide ((2147483647 : Int) = 0) = false := by decide
  have d2 : decide ((31 : Int) = 0) = false := by decide
  have d3 : decide (n = 0) = false := decide_eq_false (by omega)
  have w1 : IntKind.wrap .i64 (b * 48271) = b * 48271 := wrap_id (by omega) (by omega)
  have w2 : IntKind.wrap .i64 (b * 48271 + 29) = b * 48271 + 29 := wrap_id (by omega) (by omega)
  have hb := tmod_in (x := b * 48271 + 29) (n := 2147483647) (by omega) (by omega)
  generalize hb' : Int.tmod (b * 48271 + 29) 2147483647 = b' at *
  have hq : 0 ≤ b'.tdiv 31 ∧ b'.tdiv 31 ≤ b' := ⟨Int.tdiv_nonneg hb.1 (by omega), Int.tdiv_le_self _ hb.1⟩
  have w3 : IntKind.wrap .i64 (b'.tdiv 31) = b'.tdiv 31 := wrap_id (by omega) (by omega)
  simp only [decide_eq_false c1, cond_false, d1, d2, d3, two0, Bool.not_false, cond_true, w1, w2, hb', w3]
  by_cases c2 : a < (z.length : Int)
  · obtain ⟨i, rfl⟩ := Int.eq_ofNat_of_zero_le h3
    have hi : i < z.length := by omega
    have hz := h1 i hi
    have w4 : IntKind.wrap .i64 ((i : Int) + 1 - 1) = (i : Int) := by rw [wrap_id (by omega) (by omega)]; omega
    have w5 : IntKind.wrap .i64 (z.getD i 0) = z.getD i 0 := wrap_id (by omega) (by omega)
    have w6 : IntKind.wrap .i64 (b'.tdiv 31 + z.getD i 0) = b'.tdiv 31 + z.getD i 0 := wrap_id (by omega) (by omega)
    have t1 := tmod_in (x := z.getD i 0) (n := n) hz.1 (by omega)
    have t2 := tmod_in (x := b'.tdiv 31 + z.getD i 0) (n := n) (by omega) (by omega)
    have hsrc : Src z ((i : Int) + 1) b' := ⟨h1, h2, by omega, by omega, hb.1, hb.2⟩
    simp only [decide_eq_true c2, nn, Bool.and_self, cond_true, Int.toNat_natCast, wrap_succ (show i < 2^62 by omega), w4, w5, w6]
    cases decide (n ≤ 256) with
    | false => exact ⟨_, _, _, rfl, t2.1, .inl t2.2, hsrc⟩
    | true =>
      simp only [cond_true]
      cases (Int.tmod ((i : Int) + 1) 2 == 0) with
      | false => exact ⟨_, _, _, rfl, t2.1, .inl t2.2, hsrc⟩
      | true => exact ⟨_, _, _, rfl, t1.1, .inl t1.2, hsrc⟩
  · have t := tmod_in (x := b'.tdiv 31) (n := n) hq.1 (by omega)
    simp only [decide_eq_false c2, cond_false]
    exact ⟨_, _, _, rfl, t.1, .inl t.2, h1, h2, h3, h4, hb.1, hb.2⟩

theorem pick_ok {k : Nat} {z : List Int} {a b : Int} (hs : Src z a b) {l : List Int} (h0 : 0 < l.length) (hl : l.length ≤ 2^20) : ∃ r c d, spec_l01Pick.f k (z, (a, (b, ()))) l = some ((r, ()), ((z, (c, (d, ()))), ())) ∧ r ∈ l ∧ Src z c d := by
  unfold spec_l01Pick.f
  obtain ⟨r, c, d, e, h1, h2, h3⟩ := next_ok (k := k) hs (n := (l.length : Int)) (by omega)
  obtain ⟨i, rfl⟩ := Int.eq_ofNat_of_zero_le h1
  have hi : i < l.length := by omega
  simp only [e, Option.bind_some, nn, ltD hi, Bool.and_self, cond_true, Int.toNat_natCast]
  exact ⟨_, c, d, rfl, mem_getD.2 ⟨i, hi, rfl⟩, h3⟩

theorem room1 {n : Nat} (h : n ≤ 2^40) : decide (n * 1 ≤ AM.maxBytes) = true := room h (by omega)

theorem loop_exk {V R W : Type} {L : Nat → V → (W → Option R) → Option R} {S : (V → Option R) → (W → Option R) → V → Option R} (hL : ∀ n v kx, L (n + 1) v kx = S (fun w => L n w kx) kx v) (Inv : V → Prop) (μ : V → Nat) (Q : W → Prop)
    (h : ∀ v, Inv v → (∃ w, (∀ rec kx, S rec kx v = kx w) ∧ Q w) ∨ ∃ v', Inv v' ∧ μ v' < μ v ∧ ∀ rec kx, S rec kx v = rec v') : ∀ n v, Inv v → μ v < n → ∃ w, (∀ kx, L n v kx = kx w) ∧ Q w := by
  intro n
  induction n with
  | zero => intro v _ h; omega
  | succ n ih =>
    intro v hv hn
    rcases h v hv with ⟨w, e, q⟩ | ⟨v', i', m', e⟩
    · exact ⟨w, fun kx => by rw [hL, e], q⟩
    · obtain ⟨w, e', q⟩ := ih v' i' (by omega)
      exact ⟨w, fun kx => by rw [hL, e, e'], q⟩

theorem draw4_ok {R : Type} {k : Nat} (K : 2^42 ≤ k) {z : List Int} {a b : Int} (hs : Src z a b) {S : Nat} (hS : S ≤ 10) : ∃ w, (∀ kx, spec_l12Draw.l4 (R := R) k k ((S : Int), (0 : Int), z, a, b, ([] : List Int), ([] : List Bool)) kx = kx w) ∧ (w.1 = z ∧ w.2.2.2.1.length = S ∧ w.2.2.2.2.length = S ∧ Src z w.2.1 w.2.2.1) := by
  refine loop_exk (L := fun n v kx => spec_l12Draw.l4 (R := R) k n v kx) (S := fun rec kx v => spec_l12Draw.s4 k rec kx v) (fun _ _ _ => rfl) (fun v => ∃ (i : Nat) (a b : Int) (y1 : List Int) (y2 : List Bool), i ≤ S ∧ v = ((S : Int), (i : Int), z, a, b, y1, y2) ∧ y1.length = i ∧ y2.length = i ∧ Src z a b) (fun v => S - v.2.1.toNat) (fun w => w.1 = z ∧ w.2.2.2.1.length = S ∧ w.2.2.2.2.length = S ∧ Src z w.2.1 w.2.2.1) ?_ k _ ⟨0, a, b, [], [], Nat.zero_le _, rfl, rfl, rfl, hs⟩ (by simp only [Int.toNat_zero]; omega)
  rintro _ ⟨i, a, b, y1, y2, hi, rfl, h1, h2, hs⟩
  unfold spec_l12Draw.s4
  by_cases h : i < S
  · right
    obtain ⟨r, c, d, e1, _, _, s1⟩ := next_ok (k := k) hs (n := 60) (by omega)
    obtain ⟨r2, c2, d2, e2, _, s2⟩ := pick_ok (k := k) s1 (l := [0, 1, 5, 10, 10, 20, r]) (by simp) (by simp)
    obtain ⟨r3, c3, d3, e3, _, _, s3⟩ := next_ok (k := k) s2 (n := 3) (by omega)
    have m1 : decide ((y1.length + [r2].length) * 8 ≤ AM.maxBytes) = true := room (by simp; omega) (by omega)
    have m2 : decide ((y2.length + [(r3 == 0)].length) * 1 ≤ AM.maxBytes) = true := room1 (by simp; omega)
    refine ⟨((S : Int), ((i : Int) + 1), z, c3, d3, y1 ++ [r2], y2 ++ [(r3 == 0)]), ⟨i + 1, c3, d3, _, _, h, rfl, by simp [h1], by simp [h2], s3⟩, by simp only [Int.toNat_natCast]; omega, fun rec kx => ?_⟩
    simp only [ltD h, cond_true, e1, e2, e3, m1, m2, Option.bind_some, wrap_succ (show i < 2^62 by omega)]
  · left
    have : i = S := by omega
    subst this
    have c0 : decide ((i : Int) < (i : Int)) = false := by simp
    exact ⟨(z, a, b, y1, y2), fun rec kx => by simp only [c0, cond_false], rfl, h1, h2, hs⟩

theorem draw15_ok {R : Type} {k : Nat} (K : 2^42 ≤ k) (z : List Int) (a b : Int) (y1 : List Int) (y2 : List Bool) (h2 : y2.length ≤ 10) : ∃ w, (∀ kx, spec_l12Draw.l15 (R := R) k k ((0 : Int), z, a, b, y1, y2) kx = kx w) ∧ ∃ y, w = (z, a, b, y1, y) ∧ y.length = y2.length := by
  refine loop_exk (L := fun n v kx => spec_l12Draw.l15 (R := R) k n v kx) (S := fun rec kx v => spec_l12Draw.s15 k rec kx v) (fun _ _ _ => rfl) (fun v => ∃ (i : Nat) (y : List Bool), i ≤ y2.length ∧ v = ((i : Int), z, a, b, y1, y) ∧ y.length = y2.length) (fun v => y2.length - v.1.toNat) (fun w => ∃ y, w = (z, a, b, y1, y) ∧ y.length = y2.length) ?_ k _ ⟨0, y2, Nat.zero_le _, rfl, rfl⟩ (by simp only [Int.toNat_zero]; omega)
  rintro _ ⟨i, y, hi, rfl, hy⟩
  unfold spec_l12Draw.s15
  by_cases h : i < y.length
  · right
    refine ⟨(((i : Int) + 1), z, a, b, y1, y.set i true), ⟨i + 1, _, by omega, rfl, by simpa using hy⟩, by simp only [Int.toNat_natCast]; omega, fun rec kx => ?_⟩
    simp only [ltD h, nn, Bool.and_self, decide_eq_true h, cond_true, Int.toNat_natCast, wrap_succ (show i < 2^62 by omega)]
  · left
    have c0 : decide ((i : Int) < (y.length : Int)) = false := by simp; omega
    exact ⟨(z, a, b, y1, y), fun rec kx => by simp only [c0, cond_false], y, rfl, hy⟩

theorem draw22_ok {R : Type} {k : Nat} (K : 2^42 ≤ k) (z : List Int) (a b : Int) (y1 : List Int) (y2 : List Bool) (h2 : y2.length ≤ 10) : ∃ w, (∀ kx, spec_l12Draw.l22 (R := R) k k ((1 : Int), z, a, b, y1, y2) kx = kx w) ∧ ∃ y, w = (z, a, b, y1, y) ∧ y.length = y2.length := by
  refine loop_exk (L := fun n v kx => spec_l12Draw.l22 (R := R) k n v kx) (S := fun rec kx v => spec_l12Draw.s22 k rec kx v) (fun _ _ _ => rfl) (fun v => ∃ (i : Nat) (y : List Bool), v = ((i : Int), z, a, b, y1, y) ∧ y.length = y2.length) (fun v => y2.length - v.1.toNat) (fun w => ∃ y, w = (z, a, b, y1, y) ∧ y.length = y2.length) ?_ k _ ⟨1, y2, rfl, rfl⟩ (by omega)
  rintro _ ⟨i, y, rfl, hy⟩
  unfold spec_l12Draw.s22
  by_cases h : i < y.length
  · right
    refine ⟨(((i : Int) + 1), z, a, b, y1, y.set i true), ⟨i + 1, _, rfl, by simpa using hy⟩, by simp only [Int.toNat_natCast]; omega, fun rec kx => ?_⟩
    simp only [ltD h, nn, Bool.and_self, decide_eq_true h, cond_true, Int.toNat_natCast, wrap_succ (show i < 2^62 by omega)]
  · left
    have c0 : decide ((i : Int) < (y.length : Int)) = false := by simp; omega
    exact ⟨(z, a, b, y1, y), fun rec kx => by simp only [c0, cond_false], y, rfl, hy⟩

theorem l12Draw_ok {k : Nat} (K : 2^42 ≤ k) {z : List Int} {a b : Int} (hs : Src z a b) : ∃ (p : List Int) (m : List Bool) (c d : Int), spec_l12Draw.f k (z, (a, (b, ()))) = some ((p, (m, ())), ((z, (c, (d, ()))), ())) ∧ p.length ≤ 100 ∧ m.length ≤ 100 ∧ Src z c d := by
  unfold spec_l12Draw.f
  obtain ⟨r1, c1, d1, e1, g1, g2, s1⟩ := next_ok (k := k) hs (n := 5) (by omega)
  have w1 : IntKind.wrap .i64 (2 + r1) = 2 + r1 := wrap_id (by omega) (by omega)
  obtain ⟨S, hS⟩ := Int.eq_ofNat_of_zero_le (show 0 ≤ 2 + r1 by omega)
  have hS' : 2 + r1 = (S : Int) := hS
  rw [hS'] at w1
  obtain ⟨⟨z2, c2, d2, y1, y2⟩, e2, rfl, hy1, hy2, s2⟩ := draw4_ok (R := (List Int × List Bool × Unit) × (List Int × Int × Int × Unit) × Unit) K s1 (S := S) (by omega)
  simp only at hy1 hy2 s2
  obtain ⟨r10, c3, d3, e3, _, _, s3⟩ := next_ok (k := k) s2 (n := 24) (by omega)
  have h0 : 0 < y1.length := by omega
  have h0' : decide ((0 : Int) < (y1.length : Int)) = true := by simp; omega
  have m1 : decide ((y1.length + ([(5 : Int)] : List Int).length) * 8 ≤ AM.maxBytes) = true := room (by simp; omega) (by omega)
  simp only [e1, Option.bind_some, w1, hS', e2, e3, m1, cond_true]
  cases (r10 == 0) with
  | true => exact ⟨_, _, _, _, rfl, by simp; omega, by omega, s3⟩
  | false =>
    simp only [cond_false]
    cases (r10 == 1) with
    | true =>
      obtain ⟨r4, c4, d4, e4, _, s4⟩ := pick_ok (k := k) s3 (l := [-1, 600000, 600001]) (by simp) (by simp)
      simp only [cond_true, e4, Option.bind_some, h0', decide_eq_true h0, Int.le_refl, decide_true, Bool.and_self]
      exact ⟨_, _, _, _, rfl, by simp; omega, by omega, s4⟩
    | false =>
      simp only [cond_false]
      cases (r10 == 2) with
      | true =>
        obtain ⟨w, e5, y, rfl, hy⟩ := draw15_ok (R := (List Int × List Bool × Unit) × (List Int × Int × Int × Unit) × Unit) K z2 c3 d3 y1 y2 (by omega)
        simp only [cond_true, e5]
        exact ⟨_, _, _, _, rfl, by omega, by omega, s3⟩
      | false =>
        simp only [cond_false]
        cases (r10 == 3) with
        | true =>
          obtain ⟨r6, c6, d6, e6, g6, g6', s6⟩ := next_ok (k := k) s3 (n := 4) (by omega)
          have c9 : decide (r6 ≤ ((([(0 : Int), (5 : Int), (3 : Int)] : List Int).length : Nat) : Int)) = true := by simp; omega
          simp only [cond_true, e6, Option.bind_some, c9, decide_eq_true g6, Int.le_refl, decide_true, Bool.and_self]
          exact ⟨_, _, _, _, rfl, by simp; omega, by simp, s6⟩
        | false =>
          simp only [cond_false]
          cases (r10 == 4) with
          | true =>
            obtain ⟨w, e5, y, rfl, hy⟩ := draw22_ok (R := (List Int × List Bool × Unit) × (List Int × Int × Int × Unit) × Unit) K z2 c3 d3 y1 y2 (by omega)
            have g0 : 0 < y.length := by omega
            have g0' : decide ((0 : Int) < (y.length : Int)) = true := by simp; omega
            simp only [cond_true, e5, g0', decide_eq_true g0, Int.le_refl, decide_true, Bool.and_self]
            exact ⟨_, _, _, _, rfl, by omega, by simp; omega, s3⟩
          | false =>
            simp only [cond_false]
            exact ⟨_, _, _, _, rfl, by omega, by omega, s3⟩

theorem seed_DrawShareIn {R : Type} {k : Nat} (K : 2^42 ≤ k) {z : List Int} (hz : ∀ i, i < z.length → 0 ≤ z.getD i 0 ∧ z.getD i 0 < 256) (hl : z.length ≤ 2^40) : ∃ w, (∀ kx, spec_DrawShareIn.i1001_l3 (R := R) k k (z, (0 : Int), z, (0 : Int), (45007 : Int)) kx = kx w) ∧ ∃ b, w = (z, 0, b) ∧ Src z 0 b := by
  refine loop_exk (L := fun n v kx => spec_DrawShareIn.i1001_l3 (R := R) k n v kx) (S := fun rec kx v => spec_DrawShareIn.i1001_s3 k rec kx v) (fun _ _ _ => rfl) (fun v => ∃ (i : Nat) (b : Int), v = (z, (i : Int), z, 0, b) ∧ Src z 0 b) (fun v => z.length - v.2.1.toNat) (fun w => ∃ b, w = (z, 0, b) ∧ Src z 0 b) ?_ k _ ⟨0, 45007, rfl, hz, hl, by omega, by omega, by omega, by omega⟩ (by simp only [Int.toNat_zero]; omega)
  rintro _ ⟨i, b, rfl, hs⟩
  unfold spec_DrawShareIn.i1001_s3
  by_cases h : i < z.length
  · by_cases h' : (i : Int) < 64
    · right
      have hzi := hz i h
      obtain ⟨h1, h2, h3, h4, h5, h6⟩ := hs
      have d1 : decide ((2147483647 : Int) = 0) = false := by decide
      have w1 : IntKind.wrap .i64 (b * 61) = b * 61 := wrap_id (by omega) (by omega)
      have w2 : IntKind.wrap .i64 (z.getD i 0) = z.getD i 0 := wrap_id (by omega) (by omega)
      have w3 : IntKind.wrap .i64 (b * 61 + z.getD i 0) = b * 61 + z.getD i 0 := wrap_id (by omega) (by omega)
      have hb := tmod_in (x := b * 61 + z.getD i 0) (n := 2147483647) (by omega) (by omega)
      refine ⟨(z, ((i : Int) + 1), z, 0, Int.tmod (b * 61 + z.getD i 0) 2147483647), ⟨i + 1, _, rfl, h1, h2, h3, h4, hb.1, hb.2⟩, by simp only [Int.toNat_natCast]; omega, fun rec kx => ?_⟩
      simp only [ltD h, decide_eq_true h', nn, Bool.and_self, cond_true, Int.toNat_natCast, d1, Bool.not_false, w1, w2, w3, wrap_succ (show i < 2^62 by omega)]
    · left
      exact ⟨(z, 0, b), fun rec kx => by simp only [ltD h, decide_eq_false h', cond_true, cond_false], b, rfl, hs⟩
  · left
    have c0 : decide ((i : Int) < (z.length : Int)) = false := by simp; omega
    exact ⟨(z, 0, b), fun rec kx => by simp only [c0, cond_false], b, rfl, hs⟩

theorem seed_DrawMainPot {R : Type} {k : Nat} (K : 2^42 ≤ k) {z : List Int} (hz : ∀ i, i < z.length → 0 ≤ z.getD i 0 ∧ z.getD i 0 < 256) (hl : z.length ≤ 2^40) : ∃ w, (∀ kx, spec_DrawMainPot.i1001_l3 (R := R) k k (z, (0 : Int), z, (0 : Int), (45007 : Int)) kx = kx w) ∧ ∃ b, w = (z, 0, b) ∧ Src z 0 b := by
  refine loop_exk (L := fun n v kx => spec_DrawMainPot.i1001_l3 (R := R) k n v kx) (S := fun rec kx v => spec_DrawMainPot.i1001_s3 k rec kx v) (fun _ _ _ => rfl) (fun v => ∃ (i : Nat) (b : Int), v = (z, (i : Int), z, 0, b) ∧ Src z 0 b) (fun v => z.length - v.2.1.toNat) (fun w => ∃ b, w = (z, 0, b) ∧ Src z 0 b) ?_ k _ ⟨0, 45007, rfl, hz, hl, by omega, by omega, by omega, by omega⟩ (by simp only [Int.toNat_zero]; omega)
  rintro _ ⟨i, b, rfl, hs⟩
  unfold spec_DrawMainPot.i1001_s3
  by_cases h : i < z.length
  · by_cases h' : (i : Int) < 64
    · right
      have hzi := hz i h
      obtain ⟨h1, h2, h3, h4, h5, h6⟩ := hs
      have d1 : decide ((2147483647 : Int) = 0) = false := by decide
      have w1 : IntKind.wrap .i64 (b * 61) = b * 61 := wrap_id (by omega) (by omega)
      have w2 : IntKind.wrap .i64 (z.getD i 0) = z.getD i 0 := wrap_id (by omega) (by omega)
      have w3 : IntKind.wrap .i64 (b * 61 + z.getD i 0) = b * 61 + z.getD i 0 := wrap_id (by omega) (by omega)
      have hb := tmod_in (x := b * 61 + z.getD i 0) (n := 2147483647) (by omega) (by omega)
      refine ⟨(z, ((i : Int) + 1), z, 0, Int.tmod (b * 61 + z.getD i 0) 2147483647), ⟨i + 1, _, rfl, h1, h2, h3, h4, hb.1, hb.2⟩, by simp only [Int.toNat_natCast]; omega, fun rec kx => ?_⟩
      simp only [ltD h, decide_eq_true h', nn, Bool.and_self, cond_true, Int.toNat_natCast, d1, Bool.not_false, w1, w2, w3, wrap_succ (show i < 2^62 by omega)]
    · left
      exact ⟨(z, 0, b), fun rec kx => by simp only [ltD h, decide_eq_false h', cond_true, cond_false], b, rfl, hs⟩
  · left
    have c0 : decide ((i : Int) < (z.length : Int)) = false := by simp; omega
    exact ⟨(z, 0, b), fun rec kx => by simp only [c0, cond_false], b, rfl, hs⟩

theorem seed_DrawRefundOf {R : Type} {k : Nat} (K : 2^42 ≤ k) {z : List Int} (hz : ∀ i, i < z.length → 0 ≤ z.getD i 0 ∧ z.getD i 0 < 256) (hl : z.length ≤ 2^40) : ∃ w, (∀ kx, spec_DrawRefundOf.i1001_l3 (R := R) k k (z, (0 : Int), z, (0 : Int), (45007 : Int)) kx = kx w) ∧ ∃ b, w = (z, 0, b) ∧ Src z 0 b := by
  refine loop_exk (L := fun n v kx => spec_DrawRefundOf.i1001_l3 (R := R) k n v kx) (S := fun rec kx v => spec_DrawRefundOf.i1001_s3 k rec kx v) (fun _ _ _ => rfl) (fun v => ∃ (i : Nat) (b : Int), v = (z, (i : Int), z, 0, b) ∧ Src z 0 b) (fun v => z.length - v.2.1.toNat) (fun w => ∃ b, w = (z, 0, b) ∧ Src z 0 b) ?_ k _ ⟨0, 45007, rfl, hz, hl, by omega, by omega, by omega, by omega⟩ (by simp only [Int.toNat_zero]; omega)
  rintro _ ⟨i, b, rfl, hs⟩
  unfold spec_DrawRefundOf.i1001_s3
  by_cases h : i < z.length
  · by_cases h' : (i : Int) < 64
    · right
      have hzi := hz i h
      obtain ⟨h1, h2, h3, h4, h5, h6⟩ := hs
      have d1 : decide ((2147483647 : Int) = 0) = false := by decide
      have w1 : IntKind.wrap .i64 (b * 61) = b * 61 := wrap_id (by omega) (by omega)
      have w2 : IntKind.wrap .i64 (z.getD i 0) = z.getD i 0 := wrap_id (by omega) (by omega)
      have w3 : IntKind.wrap .i64 (b * 61 + z.getD i 0) = b * 61 + z.getD i 0 := wrap_id (by omega) (by omega)
      have hb := tmod_in (x := b * 61 + z.getD i 0) (n := 2147483647) (by omega) (by omega)
      refine ⟨(z, ((i : Int) + 1), z, 0, Int.tmod (b * 61 + z.getD i 0) 2147483647), ⟨i + 1, _, rfl, h1, h2, h3, h4, hb.1, hb.2⟩, by simp only [Int.toNat_natCast]; omega, fun rec kx => ?_⟩
      simp only [ltD h, decide_eq_true h', nn, Bool.and_self, cond_true, Int.toNat_natCast, d1, Bool.not_false, w1, w2, w3, wrap_succ (show i < 2^62 by omega)]
    · left
      exact ⟨(z, 0, b), fun rec kx => by simp only [ltD h, decide_eq_false h', cond_true, cond_false], b, rfl, hs⟩
  · left
    have c0 : decide ((i : Int) < (z.length : Int)) = false := by simp; omega
    exact ⟨(z, 0, b), fun rec kx => by simp only [c0, cond_false], b, rfl, hs⟩

theorem DrawMainPot_ok {k : Nat} (K : 2^42 ≤ k) {z : List Int} (hz : ∀ i, i < z.length → 0 ≤ z.getD i 0 ∧ z.getD i 0 < 256) (hl : z.length ≤ 2^40) : ∃ (p : List Int) (m : List Bool), spec_DrawMainPot.f k z = some ((p, (m, ())), ()) ∧ p.length ≤ 100 ∧ m.length ≤ 100 := by
  unfold spec_DrawMainPot.f
  obtain ⟨w, e, b, rfl, hs⟩ := seed_DrawMainPot (R := (List Int × List Bool × Unit) × Unit) K hz hl
  obtain ⟨p, m, c, d, e2, h1, h2, _⟩ := l12Draw_ok K hs
  simp only [e, e2, Option.bind_some]
  exact ⟨p, m, rfl, h1, h2⟩

theorem DrawRefundOf_ok {k : Nat} (K : 2^42 ≤ k) {z : List Int} (hz : ∀ i, i < z.length → 0 ≤ z.getD i 0 ∧ z.getD i 0 < 256) (hl : z.length ≤ 2^40) : ∃ (p : List Int) (m : List Bool), spec_DrawRefundOf.f k z = some ((p, (m, ())), ()) ∧ p.length ≤ 100 ∧ m.length ≤ 100 := by
  unfold spec_DrawRefundOf.f
  obtain ⟨w, e, b, rfl, hs⟩ := seed_DrawRefundOf (R := (List Int × List Bool × Unit) × Unit) K hz hl
  obtain ⟨p, m, c, d, e2, h1, h2, _⟩ := l12Draw_ok K hs
  simp only [e, e2, Option.bind_some]
  exact ⟨p, m, rfl, h1, h2⟩

theorem DrawShareIn_ok {k : Nat} (K : 2^42 ≤ k) {z : List Int} (hz : ∀ i, i < z.length → 0 ≤ z.getD i 0 ∧ z.getD i 0 < 256) (hl : z.length ≤ 2^40) : ∃ (p : List Int) (m : List Bool) (s : Int), spec_DrawShareIn.f k z = some ((p, (m, (s, ()))), ()) ∧ p.length ≤ 100 ∧ m.length ≤ 100 := by
  unfold spec_DrawShareIn.f
  obtain ⟨w, e, b, rfl, hs⟩ := seed_DrawShareIn (R := (List Int × List Bool × Int × Unit) × Unit) K hz hl
  obtain ⟨p, m, c, d, e2, h1, h2, s2⟩ := l12Draw_ok K hs
  obtain ⟨r, c', d', e3, _⟩ := next_ok (k := k) s2 (n := 8) (by omega)
  simp only [e, e2, e3, Option.bind_some]
  exact ⟨p, m, _, rfl, h1, h2⟩

/-- The bytes of a seed. -/
theorem seed_bytes {a0 : List Int} (h : ∀ x ∈ a0, (decide (IntKind.min .u8 ≤ x) && decide (x ≤ IntKind.max .u8)) = true) : ∀ i, i < a0.length → 0 ≤ a0.getD i 0 ∧ a0.getD i 0 < 256 := by
  intro i hi
  have := h (a0.getD i 0) (mem_getD.2 ⟨i, hi, rfl⟩)
  have e1 : IntKind.min .u8 = 0 := rfl
  have e2 : IntKind.max .u8 = 255 := rfl
  rw [e1, e2] at this
  simp only [Bool.and_eq_true, decide_eq_true_eq] at this
  omega

theorem likeInts_self {k : Nat} (K : 2^42 ≤ k) {l : List Int} (hl : l.length ≤ 2^40) : laws_likeInts.f k l l = some ((true, ()), ()) := by
  unfold laws_likeInts.f
  have c : ((l.length : Int) != (l.length : Int)) = false := by simp
  simp only [c, cond_false]
  refine (laws_likeInts.l4_for l.length (fun i a b => l = a ∧ l = b) (fun _ _ _ => some ((true, ()), ())) ?_ k 0 _ _ (Nat.zero_le _) ⟨rfl, rfl⟩ (by omega))
  rintro i _ b rec hi ⟨rfl, hb⟩ hrec
  subst hb
  unfold laws_likeInts.s4
  by_cases h : i < l.length
  · have e := hrec _ _ h ⟨rfl, rfl⟩
    have c2 : (l.getD i 0 != l.getD i 0) = false := by simp
    simp only [ltD h, nn, Bool.and_self, cond_true, Int.toNat_natCast, c2, cond_false, wrap_succ (show i < 2^62 by omega)]
    exact e
  · have : i = l.length := by omega
    subst this
    have c0 : decide ((l.length : Int) < (l.length : Int)) = false := by simp
    simp only [c0, cond_false]

theorem sum_eq {k : Nat} (K : 2^42 ≤ k) {l : List Int} (hl : l.length ≤ 2^20) (hb : ∀ j, j < l.length → -1073741824 ≤ l.getD j 0 ∧ l.getD j 0 ≤ 1073741824) : laws_sum.f k l = some ((l.sum, ()), ()) := by
  unfold laws_sum.f
  have hbd : ∀ i, i ≤ l.length → -(1073741824 * (i : Int)) ≤ (l.take i).sum ∧ (l.take i).sum ≤ 1073741824 * (i : Int) := by
    intro i
    induction i with
    | zero => intro _; simp
    | succ i ih =>
      intro h
      have := ih (by omega)
      have := hb i (by omega)
      rw [getD_lt (by omega)] at this
      rw [sum_take_succ (by omega)]
      omega
  refine (laws_sum.l3_for l.length (fun i a s => l = a ∧ (l.take i).sum = s) (fun _ _ _ => some ((l.sum, ()), ())) ?_ k 0 _ _ (Nat.zero_le _) ⟨rfl, by simp⟩ (by omega))
  rintro i _ _ rec hi ⟨rfl, rfl⟩ hrec
  unfold laws_sum.s3
  by_cases h : i < l.length
  · have e := hrec _ _ h ⟨rfl, rfl⟩
    have h1 := hbd i (by omega)
    have h2 := hb i h
    rw [getD_lt h] at h2
    have hw : IntKind.wrap .i64 ((l.take i).sum + l[i]) = (l.take (i + 1)).sum := by rw [sum_take_succ h, wrap_id (by omega) (by omega)]
    simp only [ltD h, nn, Bool.and_self, cond_true, Int.toNat_natCast, getD_lt h, hw, wrap_succ (show i < 2^62 by omega)]
    exact e
  · have : i = l.length := by omega
    subst this
    have c0 : decide ((l.length : Int) < (l.length : Int)) = false := by simp
    simp only [c0, cond_false, List.take_length]

theorem A_trans (p : List Int) (a b c : Int) : ∀ i, A p a b i + A p b c i = A p a c i
  | 0 => by simp [A]
  | i + 1 => by
    have := A_trans p a b c i
    rw [A_succ, A_succ, A_succ]
    omega

theorem A_refl (p : List Int) (a : Int) : ∀ i, A p a a i = 0
  | 0 => by simp [A]
  | i + 1 => by
    have := A_refl p a i
    rw [A_succ]
    omega

theorem A_O {p : List Int} (hp : Pay p) (x : Int) : ∀ i, i ≤ p.length → A p 0 x i + O p x i = (p.take i).sum
  | 0, _ => by simp [A, O]
  | i + 1, h => by
    have := A_O hp x i (by omega)
    have := hp i (by omega)
    rw [A_succ, O_succ, sum_take_succ (by omega), ← getD_lt (show i < p.length by omega) 0]
    have : (if (0 : Int) < p.getD i 0 then (0 : Int) else p.getD i 0) = 0 := by split <;> omega
    rw [this]
    omega

/-- The pots' total. -/
def totP (p : List Int) (m : List Bool) (L : List Int) (i : Nat) : Int := ((List.range i).map fun t => (pot p m L p.length t).1).sum

theorem totP_succ (p : List Int) (m : List Bool) (L : List Int) (i : Nat) : totP p m L (i + 1) = totP p m L i + (pot p m L p.length i).1 := by
  unfold totP; rw [List.range_succ, List.map_append, List.sum_append]; simp

theorem pv_succ (L : List Int) (i : Nat) : pv L (i + 1) = L.getD i 0 := by unfold pv; rw [if_neg (by omega)]; rfl

theorem totP_eq (p : List Int) (m : List Bool) (L : List Int) : ∀ i, i ≤ L.length → totP p m L i = A p 0 (pv L i) p.length + (if i = L.length ∧ 0 < i then O p (pv L i) p.length else 0)
  | 0, _ => by simp [totP, pv, A_refl]
  | i + 1, h => by
    rw [totP_succ, totP_eq p m L i (by omega), if_neg (by omega), pv_succ]
    have := A_trans p 0 (pv L i) (L.getD i 0) p.length
    simp only [pot]
    by_cases c : i + 1 = L.length
    · rw [if_pos c, if_pos ⟨c, by omega⟩]; omega
    · rw [if_neg c, if_neg (fun h => c h.1)]; omega

theorem sum_set : ∀ (l : List Int) (j : Nat) (x : Int), j < l.length → (l.set j x).sum = l.sum - l.getD j 0 + x
  | [], j, x, h => by simp at h
  | y :: l, 0, x, _ => by simp; omega
  | y :: l, j + 1, x, h => by
    have := sum_set l j x (by simpa using h)
    simp only [List.set_cons_succ, List.sum_cons, List.getD_cons_succ, this]
    omega

theorem sec_ge (b : Nat) : ∀ (l : List Int) (i : Nat) (s : Int), s ≤ secGo b i l s ∧ ∀ t, t < l.length → i + t ≠ b → l.getD t 0 ≤ secGo b i l s
  | [], i, s => ⟨Int.le_refl _, fun t h => by simp at h⟩
  | x :: r, i, s => by
    rw [secGo]
    obtain ⟨h1, h2⟩ := sec_ge b r (i + 1) (if i = b then s else if x > s then x else s)
    refine ⟨?_, fun t ht hb => ?_⟩
    · revert h1
      split
      · exact id
      · split <;> (intro h1; omega)
    · cases t with
      | zero =>
        rw [if_neg (by omega)] at h1 ⊢
        simp only [List.getD_cons_zero]
        revert h1
        split <;> (intro h1; omega)
      | succ t =>
        simp only [List.getD_cons_succ]
        exact h2 t (by simpa using ht) (by omega)

theorem live_ex : ∀ (l : List Int) (m : List Bool), live l m = true → ∃ j, j < l.length ∧ m.getD j false = false ∧ 0 < l.getD j 0
  | [], m, h => by simp [live] at h
  | x :: l, [], h => by simp [live] at h
  | x :: l, y :: m, h => by
    rw [live, Bool.or_eq_true, Bool.and_eq_true] at h
    rcases h with ⟨h1, h2⟩ | h
    · exact ⟨0, by simp, by simpa using h1, by simpa using h2⟩
    · obtain ⟨j, h1, h2, h3⟩ := live_ex l m h
      exact ⟨j + 1, by simpa using h1, by simpa using h2, by simpa using h3⟩

theorem refL_sum {l : List Int} {b : Nat} (hl : l.all (inB 0 600000) = true) (hb : IsBest l l.length b) : (refL l b).sum + (uncR l b).2 = l.sum := by
  have hin : ∀ x ∈ l, 0 ≤ x ∧ x ≤ 600000 := all_inB hl
  have hg : ∀ j, j < l.length → 0 ≤ l.getD j 0 ∧ l.getD j 0 ≤ 600000 := fun j hj => hin _ (mem_getD.2 ⟨j, hj, rfl⟩)
  have hs := secGo_in b l 0 0 hin (by omega) (by omega)
  have hbl := hg b hb.1
  have h0 := hg 0 (by have := hb.1; omega)
  have hlen : 0 < l.length := by have := hb.1; omega
  unfold refL uncR
  split
  · rw [Int.toNat_zero, sum_set _ _ _ hlen, Int.sub_zero, wrap_id (by omega) (by omega)]; omega
  · simp only [Int.toNat_natCast]
    have w1 : IntKind.wrap .i64 (l.getD b 0 - secGo b 0 l 0) = l.getD b 0 - secGo b 0 l 0 := wrap_id (by omega) (by omega)
    rw [sum_set _ _ _ hb.1, w1, wrap_id (by omega) (by omega)]; omega

theorem sum_zero : ∀ (l : List Int), (∀ j, j < l.length → l.getD j 0 = 0) → l.sum = 0
  | [], _ => rfl
  | x :: l, h => by
    have h0 := h 0 (by simp)
    have := sum_zero l (fun j hj => by simpa using h (j + 1) (by simpa using hj))
    simp only [List.getD_cons_zero] at h0
    simp [h0, this]

/-- All pots and the uncalled chips are all payments. -/
theorem pots_sum {l : List Int} {m : List Bool} {b : Nat} {L : List Int} (hpays : pays l m = true) (hb : IsBest l l.length b) (hL : Lv L (refL l b) m) : totP (refL l b) m L L.length + (uncR l b).2 = l.sum ∧ totP (refL l b) m L L.length = (refL l b).sum := by
  have p3 := (pays_len hpays).2.2.1
  have hp := refL_pay p3 hb
  have hs := refL_sum p3 hb
  have key : totP (refL l b) m L L.length = (refL l b).sum := by
    rw [totP_eq _ _ _ _ (Nat.le_refl _)]
    by_cases c : 0 < L.length
    · rw [if_pos ⟨rfl, c⟩, A_O hp _ _ (Nat.le_refl _), List.take_length]
    · have hl0 : L.length = 0 := by omega
      rw [if_neg (fun h => c h.2), hl0]
      have hpv : pv L 0 = 0 := rfl
      rw [hpv, A_refl]
      have hlive : live l m = true := by simp only [pays, Bool.and_eq_true] at hpays; exact hpays.2.2
      obtain ⟨j, hj, hjm, hjp⟩ := live_ex l m hlive
      have hL0 : L = [] := List.eq_nil_of_length_eq_zero hl0
      have hno : ∀ j, j < (refL l b).length → m.getD j false = false → ¬ 0 < (refL l b).getD j 0 := by
        intro j h1 h2 h3
        have := (hL.2 _).2 ⟨j, h1, h2, h3, rfl⟩
        rw [hL0] at this
        simp at this
      have hlen : (refL l b).length = l.length := by simp [refL]
      have h1 := hno j (by omega) hjm
      have hg : ∀ j, j < l.length → 0 ≤ l.getD j 0 ∧ l.getD j 0 ≤ 600000 := fun j hj => all_inB p3 _ (mem_getD.2 ⟨j, hj, rfl⟩)
      have hsec := sec_ge b l 0 0
      have hsin := secGo_in b l 0 0 (all_inB p3) (by omega) (by omega)
      have hbl := hg b hb.1
      have h00 := hg 0 (by omega)
      symm
      apply sum_zero
      intro i hi
      unfold refL uncR at h1 ⊢
      split at h1
      · rename_i c1
        rw [Int.toNat_zero, set_getD (by omega), Int.sub_zero, wrap_id (by omega) (by omega)] at h1
        exfalso
        apply h1
        split
        · rename_i c2; rw [← c2]; exact hjp
        · exact hjp
      · rename_i c1
        rw [if_neg c1]
        simp only [Int.toNat_natCast] at h1 ⊢
        have w1 : IntKind.wrap .i64 (l.getD b 0 - secGo b 0 l 0) = l.getD b 0 - secGo b 0 l 0 := wrap_id (by omega) (by omega)
        have w2 : IntKind.wrap .i64 (l.getD b 0 - (l.getD b 0 - secGo b 0 l 0)) = secGo b 0 l 0 := by rw [wrap_id (by omega) (by omega)]; omega
        rw [set_getD hb.1, w1, w2] at h1 ⊢
        by_cases c2 : j = b
        · rw [if_pos c2] at h1
          by_cases c3 : i = b
          · rw [if_pos c3]; omega
          · rw [if_neg c3]
            have := hsec.2 i (by omega) (by omega)
            have := hg i (by omega)
            omega
        · rw [if_neg c2] at h1; omega
  exact ⟨by rw [key]; exact hs, key⟩

theorem iUncalledOf_eq {k : Nat} (K : 2^42 ≤ k) {l : List Int} {m : List Bool} {b : Nat} (hp : pays l m = true) (hb : IsBest l l.length b) : impl_UncalledOf.f k l m = some (((uncR l b).1, (uncR l b).2, 0, ()), ()) := by
  have := pays_len hp
  unfold impl_UncalledOf.f
  simp only [iArePayments_eq K (show l.length ≤ 2^40 by omega), hp, Option.bind_some, Bool.not_true, cond_false, iUncalled_eq K (show l.length ≤ 2^40 by omega) hb]

theorem back_in {l : List Int} {b : Nat} (hl : l.all (inB 0 600000) = true) (hb : IsBest l l.length b) : 0 ≤ (uncR l b).2 ∧ (uncR l b).2 ≤ 600000 := by
  have hin : ∀ x ∈ l, 0 ≤ x ∧ x ≤ 600000 := all_inB hl
  have hs := secGo_in b l 0 0 hin (by omega) (by omega)
  have hge := hb.2.2
  have hbl := hin (l.getD b 0) (mem_getD.2 ⟨b, hb.1, rfl⟩)
  have hsec : secGo b 0 l 0 ≤ l.getD b 0 := by
    have key : ∀ (r : List Int) (i : Nat) (s : Int), s ≤ l.getD b 0 → (∀ t, t < r.length → r.getD t 0 ≤ l.getD b 0) → secGo b i r s ≤ l.getD b 0 := by
      intro r
      induction r with
      | nil => intro i s h _; exact h
      | cons x r ih =>
        intro i s h h'
        rw [secGo]
        apply ih
        · have := h' 0 (by simp)
          simp only [List.getD_cons_zero] at this
          split
          · exact h
          · split <;> omega
        · intro t ht
          have := h' (t + 1) (by simpa using ht)
          simpa using this
    exact key l 0 0 (by omega) (fun t ht => hge t ht)
  unfold uncR
  split
  · simp
  · simp only
    rw [wrap_id (by omega) (by omega)]
    omega

theorem main_both {k : Nat} (K : 2^42 ≤ k) {l : List Int} (m : List Bool) (hl : l.length ≤ 2^40) : ∃ a c, spec_MainPot.f k l m = some ((a, c, ()), ()) ∧ impl_MainPot.f k l m = some ((a, c, ()), ()) := by
  unfold spec_MainPot.f impl_MainPot.f
  cases hp : pays l m with
  | false =>
    unfold spec_PotsOf.f
    simp only [sArePayments_eq K hl, iArePayments_eq K hl, Option.bind_some, hp]
    exact ⟨0, 1, rfl, rfl⟩
  | true =>
    obtain ⟨b, L, _, _, _, _, e1, _, _, e2⟩ := pots_both K hp
    simp only [iArePayments_eq K hl, e1, e2, Option.bind_some, Bool.not_true, cond_false, hp, bne_self_eq_false]
    generalize potsF (refL l b) m L = P
    cases P with
    | nil => exact ⟨0, 4, rfl, rfl⟩
    | cons q P =>
      have c1 : (((q :: P).length : Int) == 0) = false := by rw [beq_eq_false_iff_ne, List.length_cons]; omega
      have c2 : decide ((0 : Int) < ((q :: P).length : Int)) = true := by rw [decide_eq_true_iff, List.length_cons]; omega
      have c3 : decide (0 < (q :: P).length) = true := by rw [decide_eq_true_iff, List.length_cons]; omega
      simp only [c1, c2, c3, cond_false, Int.le_refl, decide_true, Bool.and_self, cond_true]
      exact ⟨_, 0, rfl, rfl⟩

theorem pots_mem {p L : List Int} {m : List Bool} {b : Nat} : ∀ t (h : t < (potsF p m L).length), (potsF p m L)[t] = pot p m L p.length t := by
  intro t h
  simp only [potsF, potsI, List.getElem_map, List.getElem_range]

theorem pot_in {p L : List Int} {m : List Bool} (hp : Pay p) (hL : Lv L p m) : ∀ t, t < L.length → 0 ≤ (pot p m L p.length t).1 := by
  intro t ht
  have hLin := hL.in_ hp
  have hO := O_in hp (show 0 ≤ L.getD t 0 by have := hLin t ht; omega) (hLin t ht).2 _ (Nat.le_refl _)
  have hA := A_nonneg p (pv_le hL.1 hLin ht) p.length
  simp only [pot]
  split <;> omega

theorem tot_mono {p L : List Int} {m : List Bool} (hp : Pay p) (hL : Lv L p m) : ∀ d i, i + d = L.length → totP p m L i ≤ totP p m L L.length
  | 0, i, h => by rw [show i = L.length by omega]; exact Int.le_refl _
  | d + 1, i, h => by
    have := tot_mono hp hL d (i + 1) (by omega)
    have := pot_in hp hL i (by omega)
    rw [totP_succ] at *
    omega

theorem sh_le {p L : List Int} {m : List Bool} (hl : p.length ≤ 6) (hp : Pay p) (hL : Lv L p m) (x : Int) : ∀ i, i ≤ L.length → 0 ≤ shRun (potsF p m L) x i ∧ shRun (potsF p m L) x i ≤ totP p m L i
  | 0, _ => by simp [shRun, totP]
  | i + 1, h => by
    have hLl := hL.len hp
    have ih := sh_le hl hp hL x i (by omega)
    have hlen : (potsF p m L).length = L.length := potsI_len _ _ _ _ _
    have h0 := pot_in hp hL i (by omega)
    have hm := tot_mono hp hL (L.length - (i + 1)) (i + 1) (by omega)
    have hLin := hL.in_ hp
    have hpv := pv_in hLin (Nat.le_refl L.length)
    have hfull : totP p m L L.length ≤ 100000000 := by
      rw [totP_eq _ _ _ _ (Nat.le_refl _)]
      have hA := A_in hp (show (0 : Int) ≤ 0 by omega) (by omega) hpv.1 hpv.2 p.length (Nat.le_refl _)
      have hO := O_in hp hpv.1 hpv.2 p.length (Nat.le_refl _)
      split <;> omega
    rw [shRun_succ (by omega), totP_succ]
    rw [totP_succ] at hm
    rw [pots_mem (b := 0) i (by omega)]
    split
    · rw [wrap_id (by omega) (by omega)]; omega
    · omega

theorem sh_zero {p L : List Int} {m : List Bool} {x : Int} (h : ∀ j : Nat, (j : Int) = x → m.getD j false = true) : ∀ i, i ≤ (potsF p m L).length → shRun (potsF p m L) x i = 0
  | 0, _ => by simp [shRun]
  | i + 1, hi => by
    have ih := sh_zero (p := p) (L := L) h i (by omega)
    rw [shRun_succ (by omega), pots_mem (b := 0) i (by omega), ih]
    rw [if_neg]
    intro hx
    obtain ⟨j, hj, hjm, hje⟩ := mem_W.1 hx
    have := h j hje
    rw [hjm.1] at this
    simp at this

theorem sub_len : ∀ (L l : List Int), L.Nodup → (∀ x ∈ L, x ∈ l) → L.length ≤ l.length
  | [], l, _, _ => by simp
  | x :: L, l, hn, h => by
    rw [List.nodup_cons] at hn
    have hx := h x (by simp)
    have := sub_len L (l.erase x) hn.2 (fun y hy => (List.mem_erase_of_ne (fun (e : y = x) => hn.1 (e ▸ hy))).2 (h y (by simp [hy])))
    rw [List.length_erase_of_mem hx] at this
    have := List.length_pos_of_mem hx
    simp only [List.length_cons]
    omega

theorem Lv.len_le {L p : List Int} {m : List Bool} (h : Lv L p m) : L.length ≤ p.length := by
  apply sub_len
  · rw [List.Nodup, List.pairwise_iff_getElem]
    intro i j hi hj hij e
    have := h.1 i j hij hj
    rw [getD_lt hi, getD_lt hj] at this
    omega
  · intro x hx
    obtain ⟨j, hj, _, _, e⟩ := (h.2 x).1 hx
    exact mem_getD.2 ⟨j, hj, e⟩

theorem FnShares_ok (a0 : List Int) {U : Prop} (w0 : U ∧ ∀ x ∈ a0, (decide (IntKind.min .u8 ≤ x) && decide (x ≤ IntKind.max .u8)) = true) : laws_FnShares.f (2^42) a0 = some ((true, ()), ()) := by
  unfold laws_FnShares.f laws_big.f
  have K : 2^42 ≤ 2^42 := Nat.le_refl _
  by_cases hb : (a0.length : Int) > 4096
  · simp only [decide_eq_true hb, Option.bind_some, cond_true]
  obtain ⟨p, m, s, e1, hp1, hm1⟩ := DrawShareIn_ok K (seed_bytes w0.2) (by omega)
  obtain ⟨p', m', e2, hp2, hm2⟩ := DrawMainPot_ok K (seed_bytes w0.2) (by omega)
  obtain ⟨q, n, e3, hp3, hm3⟩ := DrawRefundOf_ok K (seed_bytes w0.2) (by omega)
  obtain ⟨x, c, e4, e5⟩ := main_both K m' (show p'.length ≤ 2^40 by omega)
  simp only [decide_eq_false hb, Option.bind_some, cond_false, e1, e2, e3, e4, e5, bne_self_eq_false]
  -- the share
  have hsh : ∃ x y, spec_ShareIn.f (2^42) p m s = some ((x, y, ()), ()) ∧ impl_ShareIn.f (2^42) p m s = some ((x, y, ()), ()) ∧ (y = 0 → pays p m = true ∧ inB 0 ((p.length : Int) - 1) s = true ∧ ∀ b L, IsBest p p.length b → Lv L (refL p b) m → x = shRun (potsF (refL p b) m L) s L.length) := by
    unfold spec_ShareIn.f impl_ShareIn.f
    cases hp : pays p m with
    | false =>
      unfold spec_PotsOf.f
      simp only [sArePayments_eq K (show p.length ≤ 2^40 by omega), iArePayments_eq K (show p.length ≤ 2^40 by omega), Option.bind_some, hp]
      exact ⟨0, 1, rfl, rfl, fun h => by omega⟩
    | true =>
      obtain ⟨b, L, hb, hpay, hL, hrl, e1, _, _, e2⟩ := pots_both K hp
      have hsz := potsF_sz (by have := pays_len hp; omega) hpay hL
      have hw : IntKind.wrap .i64 ((p.length : Int) - 1) = (p.length : Int) - 1 := wrap_id (by omega) (by omega)
      have hPlen : (potsF (refL p b) m L).length = L.length := potsI_len _ _ _ _ _
      simp only [iArePayments_eq K (show p.length ≤ 2^40 by omega), e1, e2, Option.bind_some, Bool.not_true, cond_false, hp, bne_self_eq_false, beq_self_eq_true, cond_true, l01In_eq, within_eq, hw, sShare_eq K hsz.1 hsz.2, iShare_eq K hsz.1 hsz.2]
      cases inB 0 ((p.length : Int) - 1) s with
      | false => exact ⟨0, 2, rfl, rfl, fun h => by omega⟩
      | true =>
        refine ⟨_, 0, rfl, rfl, fun _ => ⟨trivial, rfl, fun b' L' hb' hL' => ?_⟩⟩
        have := hb.uniq hb'
        subst this
        have := Strict.uniq hL.1 hL'.1 (fun x => (hL.2 x).trans (hL'.2 x).symm)
        subst this
        rw [hPlen]
  obtain ⟨x, y, f1, f2, hx⟩ := hsh
  simp only [f1, f2, Option.bind_some, bne_self_eq_false, cond_false]
  -- what the last part says
  have hlast : ∀ (R : Option ((Bool × Unit) × Unit)), (y ≠ 0 → R = some ((true, ()), ())) → True := fun _ _ => trivial
  have tail : (bif (y != (0 : Int)) then (some ((true, ()), ()) : Option ((Bool × Unit) × Unit)) else ((impl_CountPots.f (2^42) p m).bind fun r15 => ((impl_RefundOf.f (2^42) p m).bind fun r16 => (bif (r15.1.2.1 == (0 : Int)) then (bif (r16.1.2.1 == (0 : Int)) then ((laws_sum.f (2^42) r16.1.1).bind fun r17 => (bif (decide (x ≤ r17.1.1)) then (bif (decide (r15.1.1 ≥ (0 : Int))) then (bif (decide (r15.1.1 ≤ ((p.length : Nat) : Int))) then (bif ((decide (0 ≤ s)) && (decide (s < ((m.length : Nat) : Int)))) then (bif (decide ((Int.toNat s) < m.length)) then (bif (!(m.getD (Int.toNat s) false)) then (some ((true, ()), ())) else (some (((x == (0 : Int)), ()), ()))) else none) else none) else (some ((false, ()), ()))) else (some ((false, ()), ()))) else (some ((false, ()), ())))) else (some ((false, ()), ()))) else (some ((false, ()), ())))))) = some ((true, ()), ()) := by
    by_cases hy : y = 0
    · obtain ⟨hp, hin, hxe⟩ := hx hy
      subst hy
      obtain ⟨b, L, hbest, hpay, hL, hrl, g1, g2, g3, g4⟩ := pots_both K hp
      have hlen := pays_len hp
      have hxe := hxe b L hbest hL
      have hs := inB_iff.1 hin
      obtain ⟨j, rfl⟩ := Int.eq_ofNat_of_zero_le hs.1
      have hjm : j < m.length := by omega
      have hle := sh_le (show (refL p b).length ≤ 6 by omega) hpay hL (j : Int) L.length (Nat.le_refl _)
      have hsum := (pots_sum hp hbest hL).2
      have hPlen : (potsF (refL p b) m L).length = L.length := potsI_len _ _ _ _ _
      have hLl := hL.len_le
      have hsr : laws_sum.f (2^42) (refL p b) = some (((refL p b).sum, ()), ()) := sum_eq K (by omega) (fun j hj => by
        have := hpay j hj; omega)
      have c1 : decide (x ≤ (refL p b).sum) = true := by rw [decide_eq_true_iff, hxe]; exact Int.le_trans hle.2 (by rw [hsum]; exact Int.le_refl _)
      have c2 : decide ((L.length : Int) ≤ (p.length : Int)) = true := by rw [decide_eq_true_iff]; omega
      have c3 : decide ((L.length : Int) ≥ 0) = true := by rw [decide_eq_true_iff]; omega
      unfold impl_CountPots.f impl_RefundOf.f
      simp only [bne_self_eq_false, cond_false, iArePayments_eq K (show p.length ≤ 2^40 by omega), hp, Option.bind_some, Bool.not_true, g4, iRefund_eq K (show p.length ≤ 2^40 by omega) hbest, beq_self_eq_true, cond_true, hsr, hPlen, c1, c2, c3, nn, ltD hjm, Bool.and_self, Int.toNat_natCast, decide_eq_true hjm]
      cases hmj : m.getD j false with
      | false => rfl
      | true =>
        have : shRun (potsF (refL p b) m L) (j : Int) L.length = 0 := sh_zero (fun i hi => by rw [show i = j by omega]; exact hmj) _ (by omega)
        rw [hxe, this]
        rfl
    · have : (y != 0) = true := by rw [bne_iff_ne]; exact hy
      rw [this]; rfl
  -- the refund
  cases hq : pays q n with
  | false =>
    have u1 : impl_RefundOf.f (2^42) q n = some (([], 1, ()), ()) := by
      unfold impl_RefundOf.f
      simp only [iArePayments_eq K (show q.length ≤ 2^40 by omega), hq, Option.bind_some]; rfl
    have u2 : spec_RefundOf.f (2^42) q n = some (([], 1, ()), ()) := by
      unfold spec_RefundOf.f
      simp only [sArePayments_eq K (show q.length ≤ 2^40 by omega), hq, Option.bind_some]; rfl
    have hl0 : laws_likeInts.f (2^42) [] [] = some ((true, ()), ()) := likeInts_self K (by simp)
    have h10 : ((1 : Int) == 0) = false := rfl
    simp only [u1, u2, Option.bind_some, bne_self_eq_false, cond_false, hl0, Bool.not_true, h10]
    exact tail
  | true =>
    have hlen := pays_len hq
    obtain ⟨b, hbest⟩ := IsBest.ex q q.length (by omega)
    have hpay := refL_pay hlen.2.2.1 hbest
    have hrl : (refL q b).length = q.length := by simp [refL]
    have u1 : impl_RefundOf.f (2^42) q n = some ((refL q b, 0, ()), ()) := by
      unfold impl_RefundOf.f
      simp only [iArePayments_eq K (show q.length ≤ 2^40 by omega), hq, Option.bind_some, iRefund_eq K (show q.length ≤ 2^40 by omega) hbest]; rfl
    have u2 : spec_RefundOf.f (2^42) q n = some ((refL q b, 0, ()), ()) := by
      unfold spec_RefundOf.f
      simp only [sArePayments_eq K (show q.length ≤ 2^40 by omega), hq, Option.bind_some, sRefund_eq K (show q.length ≤ 2^40 by omega) hbest]; rfl
    have hs1 : laws_sum.f (2^42) (refL q b) = some (((refL q b).sum, ()), ()) := sum_eq K (by omega) (fun j hj => by have := hpay j hj; omega)
    have hs2 : laws_sum.f (2^42) q = some ((q.sum, ()), ()) := sum_eq K (by omega) (fun j hj => by
      have := all_inB hlen.2.2.1 (q.getD j 0) (mem_getD.2 ⟨j, hj, rfl⟩); omega)
    have hrs := refL_sum hlen.2.2.1 hbest
    have hbk := back_in hlen.2.2.1 hbest
    have hss : 0 ≤ (refL q b).sum ∧ (refL q b).sum ≤ 600000 * ((refL q b).length : Int) := sum_le (by omega) (fun x hx => by
      obtain ⟨j, hj, rfl⟩ := mem_getD.1 hx; exact hpay j hj)
    have hw : (IntKind.wrap .i64 ((refL q b).sum + (uncR q b).2) != q.sum) = false := by
      rw [wrap_id (by omega) (by omega), hrs]; simp
    simp only [u1, u2, Option.bind_some, bne_self_eq_false, cond_false, likeInts_self K (show (refL q b).length ≤ 2^40 by omega), Bool.not_true, beq_self_eq_true, cond_true, iUncalledOf_eq K hq hbest, hs1, hs2, hw]
    exact tail
end Go.Sh
