/- What the Lean functions compute, in plain lists and numbers; conditions stand in each lemma. -/
import Derived.Test.YtipjcodpegpocaaSFnSettled0
set_option linter.unusedVariables false
set_option linter.unusedSimpArgs false
namespace Go.Sh
open Go
theorem l01In_eq (k : Nat) (a lo hi : Int) : spec_l01In.f k a lo hi = some ((inB lo hi a, ()), ()) := by
  unfold spec_l01In.f inB
  by_cases h : lo ≤ a <;> simp [h]

theorem within_eq (k : Nat) (a lo hi : Int) : impl_within.f k a lo hi = some ((inB lo hi a, ()), ()) := by
  unfold impl_within.f inB
  by_cases h : lo ≤ a <;> simp [h]

attribute [simp] l01In_eq within_eq

theorem l10Chips_eq {k : Nat} (K : 2^42 ≤ k) {l : List Int} (hl : l.length ≤ 2^40) (n : Int) : spec_l10Chips.f k l n = some ((l.all (inB 0 600000) && ((l.length : Int) == n), ()), ()) := by
  unfold spec_l10Chips.f
  refine (spec_l10Chips.l2_for l.length (fun _ x0 x1 => l = x0 ∧ n = x1) (fun i _ _ => some ((((l.drop i).all (inB 0 600000) && ((l.length : Int) == n)), ()), ())) ?_ k 0 l n (Nat.zero_le _) ⟨rfl, rfl⟩ (by omega)).trans (by simp)
  rintro i _ _ rec hi ⟨rfl, rfl⟩ hrec
  unfold spec_l10Chips.s2
  by_cases h : i < l.length
  · simp [h, wrap_succ (show i < 2^62 by omega), all_drop h, hrec _ _ h ⟨rfl, rfl⟩]
    cases inB 0 600000 l[i] <;> simp
  · have : i = l.length := by omega
    subst this
    simp

theorem allWithin_eq {k : Nat} (K : 2^42 ≤ k) {l : List Int} (hl : l.length ≤ 2^40) (a b : Int) : impl_allWithin.f k l a b = some ((l.all (inB a b), ()), ()) := by
  unfold impl_allWithin.f
  refine (impl_allWithin.l2_for l.length (fun _ x1 x2 x9 x10 => a = x1 ∧ b = x2 ∧ l = x9 ∧ (l.length : Int) = x10) (fun i _ _ _ _ => some (((l.drop i).all (inB a b), ()), ())) ?_ k 0 _ _ _ _ (Nat.zero_le _) ⟨rfl, rfl, rfl, rfl⟩ (by omega)).trans (by simp)
  rintro i _ _ _ _ rec hi ⟨rfl, rfl, rfl, rfl⟩ hrec
  unfold impl_allWithin.s2
  by_cases h : i < l.length
  · simp [h, wrap_succ (show i < 2^62 by omega), all_drop h, hrec _ _ _ _ h ⟨rfl, rfl, rfl, rfl⟩]
    cases inB a b l[i] <;> simp
  · have : i = l.length := by omega
    subst this
    simp

theorem l01Sum_eq {k : Nat} (K : 2^42 ≤ k) {l : List Int} (hl : l.length ≤ 2^20) (hb : l.all (inB 0 600000) = true) : spec_l01Sum.f k l = some ((l.sum, ()), ()) := by
  unfold spec_l01Sum.f
  refine (spec_l01Sum.l3_for l.length (fun i x0 x3 => l = x0 ∧ (l.take i).sum = x3) (fun i _ _ => some ((l.sum, ()), ())) ?_ k 0 _ _ (Nat.zero_le _) ⟨rfl, by simp⟩ (by omega))
  rintro i _ _ rec hi ⟨rfl, rfl⟩ hrec
  unfold spec_l01Sum.s3
  by_cases h : i < l.length
  · have hs := sum_take_le hb i
    have hl2 : (l.take i).length ≤ 2^20 := by rw [List.length_take]; omega
    have hg := (all_inB hb) l[i] (List.getElem_mem h)
    have hw : IntKind.wrap .i64 ((l.take i).sum + l[i]) = (l.take (i + 1)).sum := by rw [sum_take_succ h, wrap_id (by omega) (by omega)]
    simp [h, hw, wrap_succ (show i < 2^62 by omega), hrec _ _ h ⟨rfl, rfl⟩]
  · have : i = l.length := by omega
    subst this
    simp

theorem sumOf_eq {k : Nat} (K : 2^42 ≤ k) {l : List Int} (hl : l.length ≤ 2^20) (hb : l.all (inB 0 600000) = true) : impl_sumOf.f k l = some ((l.sum, ()), ()) := by
  unfold impl_sumOf.f
  refine (impl_sumOf.l3_for l.length (fun i x3 x6 x7 => (l.take i).sum = x3 ∧ l = x6 ∧ (l.length : Int) = x7) (fun i _ _ _ => some ((l.sum, ()), ())) ?_ k 0 _ _ _ (Nat.zero_le _) ⟨by simp, rfl, rfl⟩ (by omega))
  rintro i _ _ _ rec hi ⟨rfl, rfl, rfl⟩ hrec
  unfold impl_sumOf.s3
  by_cases h : i < l.length
  · have hs := sum_take_le hb i
    have hl2 : (l.take i).length ≤ 2^20 := by rw [List.length_take]; omega
    have hg := (all_inB hb) l[i] (List.getElem_mem h)
    have hw : IntKind.wrap .i64 ((l.take i).sum + l[i]) = (l.take (i + 1)).sum := by rw [sum_take_succ h, wrap_id (by omega) (by omega)]
    simp [h, hw, wrap_succ (show i < 2^62 by omega), hrec _ _ _ h ⟨rfl, rfl, rfl⟩]
  · have : i = l.length := by omega
    subst this
    simp

/-- Some seat has paid and not folded. -/
def live : List Int → List Bool → Bool
  | n :: l, b :: m => (!b && decide (n > 0)) || live l m
  | _, _ => false

theorem live_drop {l : List Int} {m : List Bool} {i : Nat} (h : i < l.length) (h' : i < m.length) : live (l.drop i) (m.drop i) = ((!m[i] && decide (l[i] > 0)) || live (l.drop (i + 1)) (m.drop (i + 1))) := by
  rw [List.drop_eq_getElem_cons h, List.drop_eq_getElem_cons h', live]

/-- Payments. -/
def pays (l : List Int) (m : List Bool) : Bool := inB 2 6 l.length && ((l.all (inB 0 600000) && l.length == m.length) && live l m)

theorem sArePayments_eq {k : Nat} (K : 2^42 ≤ k) {l : List Int} (hl : l.length ≤ 2^40) (m : List Bool) : spec_ArePayments.f k l m = some ((pays l m, ()), ()) := by
  unfold spec_ArePayments.f pays
  cases h1 : inB 2 6 l.length with
  | false => simp [h1]
  | true =>
    simp only [l01In_eq, Option.bind_some, h1, Bool.not_true, cond_false, l10Chips_eq K hl, Bool.true_and]
    have hc : ((l.length : Int) == (m.length : Int)) = (l.length == m.length) := by
      rw [Bool.eq_iff_iff]; simp; omega
    rw [hc]
    cases h2 : l.all (inB 0 600000) && l.length == m.length with
    | false => simp [h2]
    | true =>
      have hlen : l.length = m.length := by
        simp only [Bool.and_eq_true, beq_iff_eq] at h2
        exact h2.2
      simp only [Bool.not_true, cond_false, Bool.true_and]
      refine (spec_ArePayments.l4_for l.length (fun i x0 x1 => l = x0 ∧ m = x1) (fun i _ _ => some ((live (l.drop i) (m.drop i), ()), ())) ?_ k 0 _ _ (Nat.zero_le _) ⟨rfl, rfl⟩ (by omega)).trans (by simp)
      rintro i _ _ rec hi ⟨rfl, rfl⟩ hrec
      unfold spec_ArePayments.s4
      by_cases h : i < l.length
      · have h' : i < m.length := by omega
        simp [h, h', wrap_succ (show i < 2^62 by omega), live_drop h h', hrec _ _ h ⟨rfl, rfl⟩]
        cases m[i] <;> by_cases hc : 0 < l[i] <;> simp [hc]
      · have : i = l.length := by omega
        subst this
        simp [live]

theorem iArePayments_eq {k : Nat} (K : 2^42 ≤ k) {l : List Int} (hl : l.length ≤ 2^40) (m : List Bool) : impl_ArePayments.f k l m = some ((pays l m, ()), ()) := by
  unfold impl_ArePayments.f pays
  cases h1 : inB 2 6 l.length with
  | false => simp [h1]
  | true =>
    simp only [within_eq, Option.bind_some, h1, Bool.not_true, cond_false, allWithin_eq K hl, Bool.true_and]
    by_cases hlen : l.length = m.length
    · simp only [hlen, bne_self_eq_false, cond_false, beq_self_eq_true, Bool.and_true]
      cases h2 : l.all (inB 0 600000) with
      | false => simp
      | true =>
        simp only [Bool.not_true, cond_false, Bool.true_and]
        refine (impl_ArePayments.l4_for l.length (fun i x1 x23 x24 => m = x1 ∧ l = x23 ∧ (l.length : Int) = x24) (fun i _ _ _ => some ((live (l.drop i) (m.drop i), ()), ())) ?_ k 0 _ _ _ (Nat.zero_le _) ⟨rfl, rfl, by rw [hlen]⟩ (by omega)).trans (by simp)
        rintro i _ _ _ rec hi ⟨rfl, rfl, rfl⟩ hrec
        unfold impl_ArePayments.s4
        by_cases h : i < l.length
        · have h' : i < m.length := by omega
          simp [h, h', wrap_succ (show i < 2^62 by omega), live_drop h h', hrec _ _ _ h ⟨rfl, rfl, rfl⟩]
          cases m[i] <;> by_cases hc : 0 < l[i] <;> simp [hc]
        · have : i = l.length := by omega
          subst this
          simp [live]
    · have h3 : ((m.length : Int) != (l.length : Int)) = true := by simp; omega
      have h4 : (l.length == m.length) = false := by simp [hlen]
      simp [h3, h4]

/-- Awards minus payments. -/
def netOf (p a : List Int) : List Int := List.zipWith (fun x y => y - x) p a

/-- What NetResult returns. -/
def NetR (p a : List Int) : List Int × Int :=
  if p.length ≤ 6 ∧ p.all (inB 0 600000) = true ∧ a.all (inB 0 600000) = true ∧ p.length = a.length then (if p.sum = a.sum then (netOf p a, 0) else ([], 5)) else ([], 2)

theorem sNetResult_eq {k : Nat} (K : 2^42 ≤ k) {p a : List Int} (hp : p.length ≤ 2^40) (ha : a.length ≤ 2^40) : spec_NetResult.f k p a = some (((NetR p a).1, (NetR p a).2, ()), ()) := by
  unfold spec_NetResult.f
  by_cases h6 : p.length ≤ 6
  · have h6' : ¬ ((p.length : Int) > 6) := by omega
    simp only [h6', decide_false, cond_false, l10Chips_eq K hp, l10Chips_eq K ha, Option.bind_some]
    cases h1 : p.all (inB 0 600000) with
    | false => simp [NetR, h1]
    | true =>
      by_cases hl : p.length = a.length
      · simp only [hl, beq_self_eq_true, Bool.and_true, Bool.not_true, cond_false]
        cases h2 : a.all (inB 0 600000) with
        | false => simp [NetR, h2]
        | true =>
          simp only [Bool.not_true, cond_false, l01Sum_eq K (show p.length ≤ 2^20 by omega) h1, l01Sum_eq K (show a.length ≤ 2^20 by omega) h2, Option.bind_some]
          by_cases hs : p.sum = a.sum
          · have hn : (netOf p a).length = p.length := by simp [netOf]; omega
            have e1 : NetR p a = (netOf p a, 0) := by unfold NetR; rw [if_pos ⟨h6, h1, h2, hl⟩, if_pos hs]
            rw [e1]
            simp only [hs, bne_self_eq_false, cond_false]
            refine (spec_NetResult.l7_for p.length (fun i x0 x1 y => p = x0 ∧ a = x1 ∧ (netOf p a).take i = y) (fun i _ _ _ => some ((netOf p a, (0, ())), ())) ?_ k 0 _ _ _ (Nat.zero_le _) ⟨rfl, rfl, by simp⟩ (by omega))
            rintro i _ _ _ rec hi ⟨rfl, rfl, rfl⟩ hrec
            unfold spec_NetResult.s7
            by_cases h : i < p.length
            · have h' : i < a.length := by omega
              have hpi := all_inB h1 p[i] (List.getElem_mem h)
              have hai := all_inB h2 a[i] (List.getElem_mem h')
              have hw : IntKind.wrap .i64 (a[i] - p[i]) = (netOf p a)[i]'(by omega) := by rw [wrap_id (by omega) (by omega)]; simp [netOf]
              have hr : decide ((((netOf p a).take i).length + 1) * 8 ≤ AM.maxBytes) = true := room (by rw [List.length_take]; omega) (by omega)
              simp only [in_range h, in_range h', Int.toNat_natCast, getD_lt h, getD_lt h', hw, List.length_singleton, hr, take_snoc (show i < (netOf p a).length by omega), wrap_succ (show i < 2^62 by omega), decide_eq_true (show (i : Int) < (p.length : Int) by omega), cond_true, hrec _ _ _ h ⟨rfl, rfl, rfl⟩]
              simp
            · have : i = p.length := by omega
              subst this
              simp [← hn]
          · have hne : (p.sum != a.sum) = true := by simp [hs]
            have h6a : a.length ≤ 6 := by omega
            simp [hne, NetR, h6a, h1, h2, hl, hs]
      · have hne : ((p.length : Int) == (a.length : Int)) = false := by simp; omega
        simp [hne, NetR, hl]
  · have h6' : ((p.length : Int) > 6) := by omega
    simp [h6', NetR, h6]

theorem clone_eq {k : Nat} {l : List Int} (hl : l.length ≤ 2^40) : slices_Clone_int64_int64.f k l = some ((l, ()), ()) := by
  unfold slices_Clone_int64_int64.f
  have hr : decide ((([] : List Int).length + l.length) * 8 ≤ AM.maxBytes) = true := room (by simpa using hl) (by omega)
  rw [hr]
  by_cases h : 0 < l.length
  · simp [h]
  · have : l = [] := List.eq_nil_of_length_eq_zero (by omega)
    subst this
    simp only [List.length_nil, Nat.lt_irrefl, decide_false, cond_false, cond_true, List.append_nil]
    exact both_same rfl rfl

theorem iNetResult_eq {k : Nat} (K : 2^42 ≤ k) {p a : List Int} (hp : p.length ≤ 2^40) (ha : a.length ≤ 2^40) : impl_NetResult.f k p a = some (((NetR p a).1, (NetR p a).2, ()), ()) := by
  unfold impl_NetResult.f
  by_cases hl : p.length = a.length
  · have hne : ((p.length : Int) != (a.length : Int)) = false := by simp [hl]
    by_cases h6 : p.length ≤ 6
    · have h6' : ¬ ((p.length : Int) > 6) := by omega
      simp only [hne, cond_false, h6', decide_false, allWithin_eq K hp, allWithin_eq K ha, Option.bind_some]
      cases h1 : p.all (inB 0 600000) with
      | false => simp [NetR, h1]
      | true =>
        simp only [Bool.not_true, cond_false]
        cases h2 : a.all (inB 0 600000) with
        | false => simp [NetR, h2]
        | true =>
          simp only [Bool.not_true, cond_false, sumOf_eq K (show p.length ≤ 2^20 by omega) h1, sumOf_eq K (show a.length ≤ 2^20 by omega) h2, Option.bind_some]
          by_cases hs : p.sum = a.sum
          · have hn : (netOf p a).length = a.length := by simp [netOf]; omega
            have e1 : NetR p a = (netOf p a, 0) := by unfold NetR; rw [if_pos ⟨h6, h1, h2, hl⟩, if_pos hs]
            rw [e1]
            simp only [hs, bne_self_eq_false, cond_false, clone_eq ha, Option.bind_some]
            refine (impl_NetResult.l7_for p.length (fun i x36 x37 y => p = x36 ∧ (p.length : Int) = x37 ∧ (netOf p a).take i ++ a.drop i = y) (fun i _ _ _ => some ((netOf p a, (0, ())), ())) ?_ k 0 _ _ _ (Nat.zero_le _) ⟨rfl, rfl, by simp⟩ (by omega))
            rintro i _ _ _ rec hi ⟨rfl, rfl, rfl⟩ hrec
            unfold impl_NetResult.s7
            by_cases h : i < p.length
            · have h' : i < a.length := by omega
              have hpi := all_inB h1 p[i] (List.getElem_mem h)
              have hai := all_inB h2 a[i] (List.getElem_mem h')
              have hw : IntKind.wrap .i64 (a[i] - p[i]) = (netOf p a)[i]'(by omega) := by rw [wrap_id (by omega) (by omega)]; simp [netOf]
              simp only [upd_len hn (show i ≤ a.length by omega), upd_get hn h', in_range h, in_range h', in_rangeN h', Int.toNat_natCast, getD_lt h, hw, upd_step (show i < (netOf p a).length by omega) h', wrap_succ (show i < 2^62 by omega), decide_eq_true (show (i : Int) < (p.length : Int) by omega), cond_true, hrec _ _ _ h ⟨rfl, rfl, rfl⟩]
              simp [h']
            · have : i = p.length := by omega
              subst this
              simp [hl, ← hn]
          · have hne : (p.sum != a.sum) = true := by simp [hs]
            have h6a : a.length ≤ 6 := by omega
            simp [hne, NetR, h6a, h1, h2, hl, hs]
    · have h6' : decide ((p.length : Int) > 6) = true := by simp; omega
      have h6a : ¬ a.length ≤ 6 := by omega
      simp only [hne, cond_false, h6', cond_true]
      simp [NetR, hl, h6a]
  · have hne : ((p.length : Int) != (a.length : Int)) = true := by simp; omega
    simp [hne, NetR, hl]

theorem NetR_len (p a : List Int) : (NetR p a).1.length ≤ 2^40 := by
  unfold NetR
  split
  · split
    · rename_i h _; simp [netOf]; omega
    · simp
  · simp

/-- b is the first of the greatest among the first n. -/
def IsBest (l : List Int) (n b : Nat) : Prop := b < n ∧ (∀ j, j < b → l.getD j 0 < l.getD b 0) ∧ ∀ j, j < n → l.getD j 0 ≤ l.getD b 0

theorem IsBest.uniq {l : List Int} {n b c : Nat} (h : IsBest l n b) (h' : IsBest l n c) : b = c := by
  rcases Nat.lt_trichotomy b c with e | e | e
  · have := h'.2.1 b e; have := h.2.2 c h'.1; omega
  · exact e
  · have := h.2.1 c e; have := h'.2.2 b h.1; omega

theorem IsBest.zero (l : List Int) : IsBest l 1 0 := ⟨by omega, fun j h => by omega, fun j h => by have : j = 0 := by omega
                                                                                                   subst this; omega⟩

theorem IsBest.more {l : List Int} {n b : Nat} (h : IsBest l n b) (hx : l.getD n 0 > l.getD b 0) : IsBest l (n + 1) n := by
  refine ⟨by omega, fun j hj => ?_, fun j hj => ?_⟩
  · have := h.2.2 j hj; omega
  · rcases Nat.lt_or_ge j n with e | e
    · have := h.2.2 j e; omega
    · have : j = n := by omega
      subst this; omega

theorem IsBest.same {l : List Int} {n b : Nat} (h : IsBest l n b) (hx : ¬ l.getD n 0 > l.getD b 0) : IsBest l (n + 1) b := by
  refine ⟨by have := h.1; omega, h.2.1, fun j hj => ?_⟩
  rcases Nat.lt_or_ge j n with e | e
  · exact h.2.2 j e
  · have : j = n := by omega
    subst this; omega

theorem IsBest.ex (l : List Int) : ∀ n, 0 < n → ∃ b, IsBest l n b
  | 0, h => by omega
  | 1, _ => ⟨0, .zero l⟩
  | n + 2, _ => by
    obtain ⟨b, hb⟩ := IsBest.ex l (n + 1) (by omega)
    by_cases hx : l.getD (n + 1) 0 > l.getD b 0
    · exact ⟨_, hb.more hx⟩
    · exact ⟨_, hb.same hx⟩

/-- The greatest of the others, or 0. -/
def secGo (b : Nat) : Nat → List Int → Int → Int
  | _, [], s => s
  | i, x :: r, s => secGo b (i + 1) r (if i = b then s else if x > s then x else s)

theorem secGo_drop {b i : Nat} {l : List Int} (h : i < l.length) (s : Int) : secGo b i (l.drop i) s = secGo b (i + 1) (l.drop (i + 1)) (if i = b then s else if l[i] > s then l[i] else s) := by
  rw [List.drop_eq_getElem_cons h, secGo]

/-- The uncalled chips, given the first of those who have paid most. -/
def uncR (l : List Int) (b : Nat) : Int × Int := if l.getD b 0 = secGo b 0 l 0 then (0, 0) else ((b : Int), IntKind.wrap .i64 (l.getD b 0 - secGo b 0 l 0))

theorem sUncalled_eq {k : Nat} (K : 2^42 ≤ k) {l : List Int} (hl : l.length ≤ 2^40) {b : Nat} (hb : IsBest l l.length b) : spec_l12Uncalled.f k l = some (((uncR l b).1, (uncR l b).2, ()), ()) := by
  unfold spec_l12Uncalled.f
  have h0 : 0 < l.length := by have := hb.1; omega
  refine (spec_l12Uncalled.l3_for l.length (fun i x0 x4 => l = x0 ∧ 1 ≤ i ∧ ∃ c : Nat, x4 = (c : Int) ∧ IsBest l i c) (fun _ _ _ => some (((uncR l b).1, (uncR l b).2, ()), ())) ?_ k 1 _ _ (by omega) ⟨rfl, by omega, 0, rfl, .zero l⟩ (by omega))
  rintro i _ _ rec hi ⟨rfl, h1, c, rfl, hc⟩ hrec
  unfold spec_l12Uncalled.s3
  by_cases h : i < l.length
  · have hci : c < l.length := by have := hc.1; omega
    by_cases hx : l.getD i 0 > l.getD c 0
    · have := hrec l (i : Int) h ⟨rfl, by omega, i, rfl, hc.more hx⟩
      simp only [ltD hci, Int.toNat_natCast, decide_eq_true hx, nn, ltD h, Bool.and_self, wrap_succ (show i < 2^62 by omega), cond_true, this]
    · have := hrec l (c : Int) h ⟨rfl, by omega, c, rfl, hc.same hx⟩
      simp only [ltD hci, Int.toNat_natCast, decide_eq_false hx, nn, ltD h, Bool.and_self, wrap_succ (show i < 2^62 by omega), cond_true, cond_false, this]
  · have : i = l.length := by omega
    subst this
    obtain rfl := hc.uniq hb
    simp only [Int.lt_irrefl, decide_false, cond_false]
    refine (spec_l12Uncalled.l9_for l.length (fun i x0 x4 x6 => l = x0 ∧ (c : Int) = x4 ∧ secGo c i (l.drop i) x6 = secGo c 0 l 0) (fun _ _ _ _ => some (((uncR l c).1, (uncR l c).2, ()), ())) ?_ k 0 _ _ _ (by omega) ⟨rfl, rfl, by simp⟩ (by omega))
    rintro i _ _ s rec hi ⟨rfl, rfl, hs⟩ hrec
    unfold spec_l12Uncalled.s9
    by_cases h : i < l.length
    · rw [secGo_drop h] at hs
      by_cases hic : i = c
      · rw [if_pos hic] at hs
        have hne : ((i : Int) != (c : Int)) = false := by simp [hic]
        simp only [hne, nn, ltD h, Bool.and_self, wrap_succ (show i < 2^62 by omega), cond_true, cond_false, hrec _ _ _ h ⟨rfl, rfl, hs⟩]
      · rw [if_neg hic] at hs
        have hne : ((i : Int) != (c : Int)) = true := by simp; omega
        simp only [hne, Int.toNat_natCast, getD_lt h, nn, ltD h, Bool.and_self, wrap_succ (show i < 2^62 by omega), cond_true, cond_false, hrec _ _ _ h ⟨rfl, rfl, hs⟩]
    · have : i = l.length := by omega
      subst this
      simp only [List.drop_length, secGo] at hs
      subst hs
      simp only [Int.lt_irrefl, decide_false, cond_false, nn, ltD hb.1, Bool.and_self, cond_true, Int.toNat_natCast]
      unfold uncR
      by_cases he : l.getD c 0 = secGo c 0 l 0
      · rw [he, if_pos rfl]
        simp only [beq_self_eq_true, cond_true]
      · have hne : (l.getD c 0 == secGo c 0 l 0) = false := by simp only [beq_eq_false_iff_ne]; exact he
        rw [hne, if_neg he]
        rfl

theorem max_eq {k : Nat} (K : 2^42 ≤ k) {l : List Int} (hl : l.length ≤ 2^40) {b : Nat} (hb : IsBest l l.length b) : slices_Max_int64_int64.f k l = some ((l.getD b 0, ()), ()) := by
  unfold slices_Max_int64_int64.f
  have h0 : 0 < l.length := by have := hb.1; omega
  have h1 : ¬ ((l.length : Int) < 1) := by omega
  have h2 : (0 : Int) < (l.length : Int) := by omega
  simp only [h1, h2, decide_false, cond_false, Int.le_refl, decide_true, Bool.and_self, cond_true]
  refine (slices_Max_int64_int64.l5_for l.length (fun i x0 x3 => l = x0 ∧ 1 ≤ i ∧ ∃ c : Nat, x3 = l.getD c 0 ∧ IsBest l i c) (fun _ _ _ => some ((l.getD b 0, ()), ())) ?_ k 1 _ _ (by omega) ⟨rfl, by omega, 0, rfl, .zero l⟩ (by omega))
  rintro i _ _ rec hi ⟨rfl, h1, c, rfl, hc⟩ hrec
  unfold slices_Max_int64_int64.s5
  by_cases h : i < l.length
  · by_cases hx : l.getD i 0 > l.getD c 0
    · have := hrec l (l.getD i 0) h ⟨rfl, by omega, i, rfl, hc.more hx⟩
      simp only [Int.toNat_natCast, if_pos hx, nn, ltD h, Bool.and_self, wrap_succ (show i < 2^62 by omega), cond_true, this]
    · have := hrec l (l.getD c 0) h ⟨rfl, by omega, c, rfl, hc.same hx⟩
      simp only [Int.toNat_natCast, if_neg hx, nn, ltD h, Bool.and_self, wrap_succ (show i < 2^62 by omega), cond_true, cond_false, this]
  · have : i = l.length := by omega
    subst this
    obtain rfl := hc.uniq hb
    simp

/-- Where x stands first. -/
theorem index_eq {k : Nat} (K : 2^42 ≤ k) {l : List Int} (hl : l.length ≤ 2^40) (x : Int) : slices_Index_int64_int64.f k l x = some ((if x ∈ l then ((l.idxOf x : Nat) : Int) else -1, ()), ()) := by
  unfold slices_Index_int64_int64.f
  refine (slices_Index_int64_int64.l2_for l.length (fun i x0 x1 x7 => l = x0 ∧ x = x1 ∧ (l.length : Int) = x7 ∧ ∀ j, j < i → l.getD j 0 ≠ x) (fun i _ _ _ => some ((if x ∈ l then ((l.idxOf x : Nat) : Int) else -1, ()), ())) ?_ k 0 _ _ _ (Nat.zero_le _) ⟨rfl, rfl, rfl, fun j hj => by omega⟩ (by omega))
  rintro i _ _ _ rec hi ⟨rfl, rfl, rfl, hno⟩ hrec
  unfold slices_Index_int64_int64.s2
  by_cases h : i < l.length
  · by_cases hx : x = l[i]
    · have hm : x ∈ l := hx ▸ List.getElem_mem h
      have hidx : l.idxOf x = i := idxOf_first h hx.symm (fun j hj => by have := hno j hj; rwa [getD_lt (show j < l.length by omega)] at this)
      simp [h, hx.symm, hm, hidx]
    · have hb : (x == l[i]) = false := by simp [hx]
      simp only [Int.toNat_natCast, getD_lt h, hb, nn, ltD h, Bool.and_self, wrap_succ (show i < 2^62 by omega), cond_true, cond_false]
      refine hrec _ _ _ h ⟨rfl, rfl, rfl, fun j hj => ?_⟩
      rcases Nat.lt_or_ge j i with e | e
      · exact hno j e
      · have : j = i := by omega
        subst this
        rw [getD_lt h]
        exact fun e => hx e.symm
  · have : i = l.length := by omega
    subst this
    have hm : x ∉ l := by
      intro hm
      obtain ⟨j, hj, e⟩ := List.mem_iff_getElem.1 hm
      exact hno j hj (by rw [getD_lt hj]; exact e)
    simp [hm]

theorem iUncalled_eq {k : Nat} (K : 2^42 ≤ k) {l : List Int} (hl : l.length ≤ 2^40) {b : Nat} (hb : IsBest l l.length b) : impl_uncalledOf.f k l = some (((uncR l b).1, (uncR l b).2, ()), ()) := by
  unfold impl_uncalledOf.f
  have hm : l.getD b 0 ∈ l := by rw [getD_lt hb.1]; exact List.getElem_mem _
  have hidx : l.idxOf (l.getD b 0) = b := idxOf_first hb.1 (getD_lt hb.1 0).symm (fun j hj => by
    have := hb.2.1 j hj
    rw [getD_lt (show j < l.length by have := hb.1; omega)] at this
    omega)
  simp only [max_eq K hl hb, index_eq K hl, Option.bind_some, if_pos hm, hidx]
  refine (impl_uncalledOf.l5_for l.length (fun i x4 x5 x6 x14 x15 => l.getD b 0 = x4 ∧ (b : Int) = x5 ∧ secGo b i (l.drop i) x6 = secGo b 0 l 0 ∧ l = x14 ∧ (l.length : Int) = x15) (fun _ _ _ _ _ _ => some (((uncR l b).1, (uncR l b).2, ()), ())) ?_ k 0 _ _ _ _ _ (by omega) ⟨rfl, rfl, by simp, rfl, rfl⟩ (by omega))
  rintro i _ _ s _ _ rec hi ⟨rfl, rfl, hs, rfl, rfl⟩ hrec
  unfold impl_uncalledOf.s5
  by_cases h : i < l.length
  · rw [secGo_drop h] at hs
    by_cases hic : i = b
    · rw [if_pos hic] at hs
      have hne : ((i : Int) != (b : Int)) = false := by simp [hic]
      simp only [hne, nn, ltD h, Bool.and_self, wrap_succ (show i < 2^62 by omega), cond_true, cond_false, hrec _ _ _ _ _ h ⟨rfl, rfl, hs, rfl, rfl⟩]
    · rw [if_neg hic] at hs
      have hne : ((i : Int) != (b : Int)) = true := by simp; omega
      simp only [hne, nn, ltD h, Bool.and_self, Int.toNat_natCast, getD_lt h, wrap_succ (show i < 2^62 by omega), cond_true, cond_false, hrec _ _ _ _ _ h ⟨rfl, rfl, hs, rfl, rfl⟩]
  · have : i = l.length := by omega
    subst this
    simp only [List.drop_length, secGo] at hs
    subst hs
    simp only [Int.lt_irrefl, decide_false, cond_false]
    unfold uncR
    by_cases he : l.getD b 0 = secGo b 0 l 0
    · rw [if_pos he, ← he]
      simp only [beq_self_eq_true, cond_true]
    · have hne : (secGo b 0 l 0 == l.getD b 0) = false := by simp only [beq_eq_false_iff_ne]; exact fun e => he e.symm
      rw [hne, if_neg he]
      rfl

theorem pays_len {l : List Int} {m : List Bool} (h : pays l m = true) : 2 ≤ l.length ∧ l.length ≤ 6 ∧ l.all (inB 0 600000) = true ∧ l.length = m.length := by
  simp only [pays, inB, Bool.and_eq_true, decide_eq_true_eq, beq_iff_eq] at h
  obtain ⟨⟨h1, h2⟩, ⟨h3, h4⟩, h5⟩ := h
  exact ⟨by omega, by omega, h3, h4⟩

theorem l01Has_eq {k : Nat} (K : 2^42 ≤ k) {l : List Int} (hl : l.length ≤ 2^40) (x : Int) : spec_l01Has.f k l x = some ((decide (x ∈ l), ()), ()) := by
  unfold spec_l01Has.f
  refine (spec_l01Has.l2_for l.length (fun i x0 x1 => l = x0 ∧ x = x1) (fun i _ _ => some ((decide (x ∈ l.drop i), ()), ())) ?_ k 0 _ _ (Nat.zero_le _) ⟨rfl, rfl⟩ (by omega)).trans (by simp)
  rintro i _ _ rec hi ⟨rfl, rfl⟩ hrec
  unfold spec_l01Has.s2
  by_cases h : i < l.length
  · simp only [nn, ltD h, Bool.and_self, Int.toNat_natCast, getD_lt h, wrap_succ (show i < 2^62 by omega), cond_true, hrec _ _ h ⟨rfl, rfl⟩]
    have e : (x ∈ l.drop i) ↔ (l[i] = x ∨ x ∈ l.drop (i + 1)) := by
      rw [List.drop_eq_getElem_cons h, List.mem_cons]
      exact ⟨fun h => h.imp Eq.symm id, fun h => h.imp Eq.symm id⟩
    by_cases hx : l[i] = x
    · simp [hx, e]
    · have hb : (l[i] == x) = false := by simp [hx]
      simp [hx, e, hb]
  · have : i = l.length := by omega
    subst this
    simp

theorem contains_eq {k : Nat} (K : 2^42 ≤ k) {l : List Int} (hl : l.length ≤ 2^40) (x : Int) : slices_Contains_int64_int64.f k l x = some ((decide (x ∈ l), ()), ()) := by
  unfold slices_Contains_int64_int64.f
  rw [index_eq K hl]
  by_cases h : x ∈ l <;> simp [h]

/-- Strictly rising. -/
def risesB : List Int → Bool
  | x :: y :: l => decide (x < y) && risesB (y :: l)
  | _ => true

theorem rises_drop {l : List Int} {i : Nat} (h : i + 1 < l.length) : risesB (l.drop i) = (decide (l[i] < l[i + 1]) && risesB (l.drop (i + 1))) := by
  rw [List.drop_eq_getElem_cons (show i < l.length by omega), List.drop_eq_getElem_cons h, risesB]

theorem rises_last {l : List Int} {i : Nat} (h : l.length ≤ i + 1) : risesB (l.drop i) = true := by
  have : (l.drop i).length ≤ 1 := by rw [List.length_drop]; omega
  match hd : l.drop i, this with
  | [], _ => rfl
  | [_], _ => rfl

/-- Seats of a pot. -/
def wins (w : List Int) (n : Int) : Bool := decide (0 < w.length) && (w.all (inB 0 (n - 1)) && risesB w)

/-- One seat's turn: what is left over, and the shares. -/
def spStep (w : List Int) (S F : Nat) (q : Int) (s : Int × List Int) (i : Nat) : Int × List Int :=
  if (((F + i) % S : Nat) : Int) ∈ w then (if s.1 > 0 then (s.1 - 1, s.2.set ((F + i) % S) (q + 1)) else (s.1, s.2.set ((F + i) % S) q)) else s

def spRun (w : List Int) (S F : Nat) (a : Int) (i : Nat) : Int × List Int := (List.range i).foldl (spStep w S F (a.tdiv w.length)) (a.tmod w.length, List.replicate S 0)

/-- The shares. -/
def splitL (w : List Int) (S F : Nat) (a : Int) : List Int := (spRun w S F a S).2

theorem spRun_succ (w : List Int) (S F : Nat) (a : Int) (i : Nat) : spRun w S F a (i + 1) = spStep w S F (a.tdiv w.length) (spRun w S F a i) i := by
  unfold spRun; rw [List.range_succ, List.foldl_append]; rfl

theorem spStep_len (w : List Int) (S F : Nat) (q : Int) (s : Int × List Int) (i : Nat) : (spStep w S F q s i).2.length = s.2.length := by
  unfold spStep; split
  · split <;> simp
  · rfl

theorem spRun_len (w : List Int) (S F : Nat) (a : Int) : ∀ i, (spRun w S F a i).2.length = S
  | 0 => by simp [spRun]
  | i + 1 => by rw [spRun_succ, spStep_len, spRun_len w S F a i]

theorem spRun_rest (w : List Int) (S F : Nat) {a : Int} (h0 : 0 ≤ a) : ∀ i, 0 ≤ (spRun w S F a i).1 ∧ (spRun w S F a i).1 ≤ a
  | 0 => by
    simp only [spRun, List.range_zero, List.foldl_nil]
    obtain ⟨m, rfl⟩ := Int.eq_ofNat_of_zero_le h0
    have e : Int.tmod (m : Int) (w.length : Int) = ((m % w.length : Nat) : Int) := (Int.ofNat_tmod m w.length).symm
    rw [e]
    have := Nat.mod_le m w.length
    omega
  | i + 1 => by
    have := spRun_rest w S F h0 i
    rw [spRun_succ]
    unfold spStep
    split
    · split
      · simp only; omega
      · exact this
    · exact this

theorem div_le {a : Int} {n : Nat} (h0 : 0 ≤ a) : 0 ≤ a.tdiv n ∧ a.tdiv n ≤ a := ⟨Int.tdiv_nonneg h0 (Int.natCast_nonneg n), Int.tdiv_le_self _ h0⟩

theorem tmod_seat {S F i : Nat} (hF : F < 2^40) (hi : i < 2^40) : Int.tmod (IntKind.wrap .i64 ((F : Int) + (i : Int))) (S : Int) = (((F + i) % S : Nat) : Int) := by
  rw [wrap_id (by omega) (by omega)]
  exact (Int.ofNat_tmod (F + i) S).symm

theorem sSplit_eq {k : Nat} (K : 2^42 ≤ k) {w : List Int} (hl : w.length ≤ 2^40) (hw : 0 < w.length) {a : Int} (ha : 0 ≤ a) (ha' : a ≤ 2^40) {S F : Nat} (hS : 0 < S) (hS' : S ≤ 2^20) (hF : F < 2^40) :
    spec_l13Split.f k a w (S : Int) (F : Int) = some ((splitL w S F a, ()), ()) := by
  unfold spec_l13Split.f
  have hm : decide ((S : Int) * ((8 : Nat) : Int) ≤ (AM.maxBytes : Int)) = true := by unfold AM.maxBytes; simp; omega
  have hn : decide ((w.length : Int) = 0) = false := decide_eq_false (by omega)
  simp only [nn, Int.le_refl, decide_true, hm, Bool.and_self, cond_true, hn, Bool.not_false, Int.toNat_natCast]
  refine (spec_l13Split.l5_for S (fun i x0 x1 x2 x3 x10 x11 y => a = x0 ∧ w = x1 ∧ (S : Int) = x2 ∧ (F : Int) = x3 ∧ (w.length : Int) = x10 ∧ (spRun w S F a i).1 = x11 ∧ (spRun w S F a i).2 = y) (fun _ _ _ _ _ _ _ _ => some ((splitL w S F a, ()), ())) ?_ k 0 _ _ _ _ _ _ _ (Nat.zero_le _) ⟨rfl, rfl, rfl, rfl, rfl, rfl, rfl⟩ (by omega))
  rintro i _ _ _ _ _ _ _ rec hi ⟨rfl, rfl, rfl, rfl, rfl, rfl, rfl⟩ hrec
  unfold spec_l13Split.s5
  by_cases h : i < S
  · have ht : (F + i) % S < S := Nat.mod_lt _ hS
    have hlen := spRun_len w S F a i
    have hrest := spRun_rest w S F ha i
    have hq := div_le (n := w.length) ha
    have hS0 : decide ((S : Int) = 0) = false := decide_eq_false (by omega)
    have e := hrec a w (S : Int) (F : Int) (w.length : Int) _ _ h ⟨rfl, rfl, rfl, rfl, rfl, rfl, rfl⟩
    have hwq : IntKind.wrap .i64 (a.tdiv w.length) = a.tdiv w.length := wrap_id (by omega) (by omega)
    have hwq1 : IntKind.wrap .i64 (a.tdiv w.length + 1) = a.tdiv w.length + 1 := wrap_id (by omega) (by omega)
    have hwr : IntKind.wrap .i64 ((spRun w S F a i).1 - 1) = (spRun w S F a i).1 - 1 := wrap_id (by omega) (by omega)
    have htl : (F + i) % S < (spRun w S F a i).2.length := by omega
    simp only [ltD h, tmod_seat hF (show i < 2^40 by omega), hS0, hn, Bool.not_false, cond_true, l01Has_eq K hl, Option.bind_some, nn, hlen, ltD ht, Bool.and_self, Int.toNat_natCast, List.length_set, decide_eq_true ht, hwq, hwr, wrap_succ (show i < 2^62 by omega)]
    rw [spRun_succ] at e
    unfold spStep at e
    by_cases hin : (((F + i) % S : Nat) : Int) ∈ w
    · simp only [hin, decide_true, cond_true]
      rw [if_pos hin] at e
      by_cases hr : (spRun w S F a i).1 > 0
      · rw [if_pos hr] at e
        have hg : ((spRun w S F a i).2.set ((F + i) % S) (a.tdiv w.length)).getD ((F + i) % S) 0 = a.tdiv w.length := by
          rw [getD_lt (by rw [List.length_set]; omega)]; simp
        simp only [decide_eq_true hr, cond_true, hg, hwq1, List.set_set]
        exact e
      · rw [if_neg hr] at e
        simp only [decide_eq_false hr, cond_false]
        exact e
    · simp only [hin, decide_false, cond_false]
      rw [if_neg hin] at e
      exact e
  · have : i = S := by omega
    subst this
    simp [splitL]

theorem iSplit_eq {k : Nat} (K : 2^42 ≤ k) {w : List Int} (hl : w.length ≤ 2^40) (hw : 0 < w.length) {a : Int} (ha : 0 ≤ a) (ha' : a ≤ 2^40) {S F : Nat} (hS : 0 < S) (hS' : S ≤ 2^20) (hF : F < 2^40) :
    impl_splitChips.f k a w (S : Int) (F : Int) = some ((splitL w S F a, ()), ()) := by
  unfold impl_splitChips.f
  have hm : decide ((S : Int) * ((8 : Nat) : Int) ≤ (AM.maxBytes : Int)) = true := by unfold AM.maxBytes; simp; omega
  have hn : decide ((w.length : Int) = 0) = false := decide_eq_false (by omega)
  simp only [nn, Int.le_refl, decide_true, hm, Bool.and_self, cond_true, hn, Bool.not_false, Int.toNat_natCast]
  refine (impl_splitChips.l5_for S (fun i x0 x1 x2 x3 x10 x11 x21 y => a = x0 ∧ w = x1 ∧ (S : Int) = x2 ∧ (F : Int) = x3 ∧ (w.length : Int) = x10 ∧ (spRun w S F a i).1 = x11 ∧ (S : Int) = x21 ∧ (spRun w S F a i).2 = y) (fun _ _ _ _ _ _ _ _ _ => some ((splitL w S F a, ()), ())) ?_ k 0 _ _ _ _ _ _ _ _ (Nat.zero_le _) ⟨rfl, rfl, rfl, rfl, rfl, rfl, rfl, rfl⟩ (by omega))
  rintro i _ _ _ _ _ _ _ _ rec hi ⟨rfl, rfl, rfl, rfl, rfl, rfl, rfl, rfl⟩ hrec
  unfold impl_splitChips.s5
  by_cases h : i < S
  · have ht : (F + i) % S < S := Nat.mod_lt _ hS
    have hlen := spRun_len w S F a i
    have hrest := spRun_rest w S F ha i
    have hq := div_le (n := w.length) ha
    have hS0 : decide ((S : Int) = 0) = false := decide_eq_false (by omega)
    have e := hrec a w (S : Int) (F : Int) (w.length : Int) _ (S : Int) _ h ⟨rfl, rfl, rfl, rfl, rfl, rfl, rfl, rfl⟩
    have hwq : IntKind.wrap .i64 (a.tdiv w.length) = a.tdiv w.length := wrap_id (by omega) (by omega)
    have hwq1 : IntKind.wrap .i64 (a.tdiv w.length + 1) = a.tdiv w.length + 1 := wrap_id (by omega) (by omega)
    have hwr : IntKind.wrap .i64 ((spRun w S F a i).1 - 1) = (spRun w S F a i).1 - 1 := wrap_id (by omega) (by omega)
    have htl : (F + i) % S < (spRun w S F a i).2.length := by omega
    simp only [ltD h, tmod_seat hF (show i < 2^40 by omega), hS0, hn, Bool.not_false, cond_true, contains_eq K hl, Option.bind_some, nn, hlen, ltD ht, Bool.and_self, Int.toNat_natCast, List.length_set, decide_eq_true ht, hwq, hwr, wrap_succ (show i < 2^62 by omega)]
    rw [spRun_succ] at e
    unfold spStep at e
    by_cases hin : (((F + i) % S : Nat) : Int) ∈ w
    · simp only [hin, decide_true, Bool.not_true, cond_false]
      rw [if_pos hin] at e
      by_cases hr : (spRun w S F a i).1 > 0
      · rw [if_pos hr] at e
        have hg : ((spRun w S F a i).2.set ((F + i) % S) (a.tdiv w.length)).getD ((F + i) % S) 0 = a.tdiv w.length := by
          rw [getD_lt (by rw [List.length_set]; omega)]; simp
        simp only [decide_eq_true hr, cond_true, hg, hwq1, List.set_set]
        exact e
      · rw [if_neg hr] at e
        simp only [decide_eq_false hr, cond_false]
        exact e
    · simp only [hin, decide_false, Bool.not_false, cond_true]
      rw [if_neg hin] at e
      exact e
  · have : i = S := by omega
    subst this
    simp [splitL]

theorem inB_iff {a b x : Int} : inB a b x = true ↔ a ≤ x ∧ x ≤ b := by simp [inB]

theorem wins_pos {w : List Int} {n : Int} (h : wins w n = true) : 0 < w.length := by simp only [wins, Bool.and_eq_true, decide_eq_true_eq] at h; exact h.1

theorem l01Own_eq {k : Nat} {l : List Int} (hl : l.length ≤ 2^40) : spec_l01Own.f k l = some ((l, ()), ()) := by
  unfold spec_l01Own.f
  have hr : decide ((([] : List Int).length + l.length) * 8 ≤ AM.maxBytes) = true := room (by simpa using hl) (by omega)
  rw [hr]
  simp

/-- The payments without the uncalled chips. -/
def refL (l : List Int) (b : Nat) : List Int := l.set (uncR l b).1.toNat (IntKind.wrap .i64 (l.getD (uncR l b).1.toNat 0 - (uncR l b).2))

theorem uncR_seat {l : List Int} {b : Nat} (hb : IsBest l l.length b) : ∃ j : Nat, (uncR l b).1 = (j : Int) ∧ j < l.length := by
  unfold uncR
  have := hb.1
  split
  · exact ⟨0, rfl, by omega⟩
  · exact ⟨b, rfl, hb.1⟩

theorem sRefund_eq {k : Nat} (K : 2^42 ≤ k) {l : List Int} (hl : l.length ≤ 2^40) {b : Nat} (hb : IsBest l l.length b) : spec_l12Refund.f k l = some ((refL l b, ()), ()) := by
  unfold spec_l12Refund.f
  obtain ⟨j, hj, hjl⟩ := uncR_seat hb
  simp only [l01Own_eq hl, sUncalled_eq K hl hb, Option.bind_some, refL, hj, nn, ltD hjl, Bool.and_self, cond_true, Int.toNat_natCast, decide_eq_true hjl]

theorem iRefund_eq {k : Nat} (K : 2^42 ≤ k) {l : List Int} (hl : l.length ≤ 2^40) {b : Nat} (hb : IsBest l l.length b) : impl_refunded.f k l = some ((refL l b, ()), ()) := by
  unfold impl_refunded.f
  obtain ⟨j, hj, hjl⟩ := uncR_seat hb
  simp only [clone_eq hl, iUncalled_eq K hl hb, Option.bind_some, refL, hj, nn, ltD hjl, Bool.and_self, cond_true, Int.toNat_natCast, decide_eq_true hjl]

/-- One seat's turn: the best value so far (below 0: none), and who has it. -/
def bestStep (hi : Bool) (vals : List Int) (s : Int × List Int) (w : Int) : Int × List Int :=
  if vals.getD w.toNat 0 < 0 then s else if s.1 < 0 ∨ (hi = true ∧ vals.getD w.toNat 0 > s.1) ∨ (hi = false ∧ vals.getD w.toNat 0 < s.1) then (vals.getD w.toNat 0, [w]) else if vals.getD w.toNat 0 = s.1 then (s.1, s.2 ++ [w]) else s

def bestRun (hi : Bool) (vals ws : List Int) (i : Nat) : Int × List Int := (ws.take i).foldl (bestStep hi vals) (-1, [])

def bestL (hi : Bool) (vals ws : List Int) : List Int := (bestRun hi vals ws ws.length).2

theorem bestRun_succ {hi : Bool} {vals ws : List Int} {i : Nat} (h : i < ws.length) : bestRun hi vals ws (i + 1) = bestStep hi vals (bestRun hi vals ws i) ws[i] := by
  unfold bestRun; rw [← List.take_append_getElem h, List.foldl_append]; rfl

theorem bestRun_len (hi : Bool) (vals ws : List Int) : ∀ i, (bestRun hi vals ws i).2.length ≤ i
  | 0 => by simp [bestRun]
  | i + 1 => by
    by_cases h : i < ws.length
    · have := bestRun_len hi vals ws i
      rw [bestRun_succ h]
      unfold bestStep
      split
      · omega
      · split
        · simp
        · split
          · simp; omega
          · omega
    · have e : ws.take (i + 1) = ws.take i := by rw [List.take_of_length_le (by omega), List.take_of_length_le (by omega)]
      unfold bestRun at *
      rw [e]
      have := bestRun_len hi vals ws i
      unfold bestRun at this
      omega

theorem sBest_eq {k : Nat} (K : 2^42 ≤ k) {ws vals : List Int} (hl : ws.length ≤ 2^40) (hv : ws.all (inB 0 ((vals.length : Int) - 1)) = true) (hi : Bool) : spec_l13Best.f k ws vals hi = some ((bestL hi vals ws, ()), ()) := by
  unfold spec_l13Best.f
  refine (spec_l13Best.l4_for ws.length (fun i x0 x1 x2 x8 y => ws = x0 ∧ vals = x1 ∧ hi = x2 ∧ (bestRun hi vals ws i).1 = x8 ∧ (bestRun hi vals ws i).2 = y) (fun _ _ _ _ _ _ => some ((bestL hi vals ws, ()), ())) ?_ k 0 _ _ _ _ _ (Nat.zero_le _) ⟨rfl, rfl, rfl, rfl, rfl⟩ (by omega))
  rintro i _ _ _ _ _ rec hi' ⟨rfl, rfl, rfl, rfl, rfl⟩ hrec
  unfold spec_l13Best.s4
  by_cases h : i < ws.length
  · have hb := all_inB hv ws[i] (List.getElem_mem h)
    have e := hrec ws vals hi _ _ h ⟨rfl, rfl, rfl, rfl, rfl⟩
    rw [bestRun_succ h] at e
    unfold bestStep at e
    have hlen := bestRun_len hi vals ws i
    obtain ⟨j, hj⟩ := Int.eq_ofNat_of_zero_le hb.1
    have hj' : ws[i] = (j : Int) := hj
    have hjl : j < vals.length := by omega
    have hr : decide (((bestRun hi vals ws i).2.length + 1) * 8 ≤ AM.maxBytes) = true := room (by omega) (by omega)
    rw [hj'] at e
    simp only [Int.toNat_natCast] at e
    simp only [nn, ltD h, Bool.and_self, Int.toNat_natCast, getD_lt h, hj', ltD hjl, wrap_succ (show i < 2^62 by omega), cond_true, List.length_singleton, hr]
    generalize bestRun hi vals ws i = s at *
    obtain ⟨v, hv'⟩ : ∃ v, vals.getD j 0 = v := ⟨_, rfl⟩
    simp only [hv'] at e ⊢
    by_cases c1 : v < 0
    · rw [if_pos c1] at e
      simp only [decide_eq_true c1, cond_true, e]
    · rw [if_neg c1] at e
      simp only [decide_eq_false c1, cond_false]
      by_cases c2 : s.1 < 0
      · rw [if_pos (.inl c2)] at e
        simp only [decide_eq_true c2, cond_true, e]
      · simp only [decide_eq_false c2, cond_false]
        cases hi with
        | true =>
          by_cases c3 : v > s.1
          · rw [if_pos (.inr (.inl ⟨rfl, c3⟩))] at e
            simp only [decide_eq_true c3, cond_true, e]
          · rw [if_neg (by simp; omega)] at e
            simp only [decide_eq_false c3, cond_true, cond_false, Bool.not_true]
            by_cases c4 : v = s.1
            · rw [if_pos c4] at e
              simp only [c4, beq_self_eq_true, cond_true, e]
            · rw [if_neg c4] at e
              have hb4 : (v == s.1) = false := by simp [c4]
              simp only [hb4, cond_false, e]
        | false =>
          by_cases c3 : v < s.1
          · rw [if_pos (.inr (.inr ⟨rfl, c3⟩))] at e
            simp only [decide_eq_true c3, cond_true, cond_false, Bool.not_false, e]
          · rw [if_neg (by simp; omega)] at e
            simp only [decide_eq_false c3, cond_true, cond_false, Bool.not_false]
            by_cases c4 : v = s.1
            · rw [if_pos c4] at e
              simp only [c4, beq_self_eq_true, cond_true, e]
            · rw [if_neg c4] at e
              have hb4 : (v == s.1) = false := by simp [c4]
              simp only [hb4, cond_false, e]
  · have : i = ws.length := by omega
    subst this
    simp [bestL]

theorem bestRun_low (vals ws : List Int) : ∀ i, (bestRun true vals ws i).1 < 0 → (bestRun true vals ws i).2 = []
  | 0 => by simp [bestRun]
  | i + 1 => by
    by_cases h : i < ws.length
    · have := bestRun_low vals ws i
      rw [bestRun_succ h]
      unfold bestStep
      split
      · exact this
      · split
        · intro hlt; simp only at hlt; omega
        · rename_i c1 c2
          split
          · intro hlt; simp only at hlt; exact absurd (.inl hlt) c2
          · intro hlt; exact absurd (.inl hlt) c2
    · have e : ws.take (i + 1) = ws.take i := by rw [List.take_of_length_le (by omega), List.take_of_length_le (by omega)]
      have := bestRun_low vals ws i
      unfold bestRun at *
      rw [e]
      exact this

theorem iHigh_eq {k : Nat} (K : 2^42 ≤ k) {ws vals : List Int} (hl : ws.length ≤ 2^40) (hv : ws.all (inB 0 ((vals.length : Int) - 1)) = true) : impl_highWinners.f k ws vals = some ((bestL true vals ws, ()), ()) := by
  unfold impl_highWinners.f
  refine (impl_highWinners.l4_for ws.length (fun i x1 x6 x9 x10 y => vals = x1 ∧ max 0 (bestRun true vals ws i).1 = x6 ∧ ws = x9 ∧ (ws.length : Int) = x10 ∧ (bestRun true vals ws i).2 = y) (fun _ _ _ _ _ _ => some ((bestL true vals ws, ()), ())) ?_ k 0 _ _ _ _ _ (Nat.zero_le _) ⟨rfl, rfl, rfl, rfl, rfl⟩ (by omega))
  rintro i _ _ _ _ _ rec hi' ⟨rfl, rfl, rfl, rfl, rfl⟩ hrec
  unfold impl_highWinners.s4
  by_cases h : i < ws.length
  · have hb := all_inB hv ws[i] (List.getElem_mem h)
    have e := hrec vals _ ws _ _ h ⟨rfl, rfl, rfl, rfl, rfl⟩
    have hlen := bestRun_len true vals ws i
    have hlow := bestRun_low vals ws i
    obtain ⟨j, hj⟩ := Int.eq_ofNat_of_zero_le hb.1
    have hj' : ws[i] = (j : Int) := hj
    have hjl : j < vals.length := by omega
    have hr : decide (((bestRun true vals ws i).2.length + 1) * 8 ≤ AM.maxBytes) = true := room (by omega) (by omega)
    have hr1 : decide (1 * 8 ≤ AM.maxBytes) = true := room (by omega) (by omega)
    rw [bestRun_succ h, hj'] at e
    obtain ⟨v, hv'⟩ : ∃ v, vals.getD j 0 = v := ⟨_, rfl⟩
    simp only [nn, ltD h, Bool.and_self, Int.toNat_natCast, getD_lt h, hj', ltD hjl, wrap_succ (show i < 2^62 by omega), cond_true, List.length_singleton, hr, hr1, beq_self_eq_true, hv']
    generalize bestRun true vals ws i = s at *
    have step : ∀ q, (if v < 0 then s else if s.1 < 0 ∨ v > s.1 then (v, [(j : Int)]) else if v = s.1 then (s.1, s.2 ++ [(j : Int)]) else s) = q → rec (vals, max 0 q.1, ws, (ws.length : Int), (i : Int) + 1, q.2) = some ((bestL true vals ws, ()), ()) := by
      intro q hq
      have : bestStep true vals s (j : Int) = q := by
        rw [← hq]
        unfold bestStep
        simp only [Int.toNat_natCast, hv', true_and, Bool.true_eq_false, false_and, or_false]
      rw [this] at e
      exact e
    clear e
    by_cases c1 : v < 0
    · have e := step s (by rw [if_pos c1])
      have c3 : ¬ v > max 0 s.1 := by omega
      have c4 : (v == max 0 s.1) = false := by simp only [beq_eq_false_iff_ne]; omega
      simp only [decide_eq_false c3, c4, cond_false, e]
    · by_cases c2 : s.1 < 0
      · have e := step (v, [(j : Int)]) (by rw [if_neg c1, if_pos (.inl c2)])
        have hm : max 0 s.1 = 0 := by omega
        simp only [hm]
        have hmv : max 0 v = v := by omega
        simp only [hmv] at e
        by_cases c3 : v > 0
        · simp only [decide_eq_true c3, cond_true, e]
        · have : v = 0 := by omega
          subst this
          have hnil := hlow c2
          simp only [hnil, Int.lt_irrefl, decide_false, cond_false, beq_self_eq_true, cond_true, List.nil_append, gt_iff_lt, e]
      · have hm : max 0 s.1 = s.1 := by omega
        simp only [hm]
        by_cases c3 : v > s.1
        · have e := step (v, [(j : Int)]) (by rw [if_neg c1, if_pos (.inr c3)])
          have hmv : max 0 v = v := by omega
          simp only [hmv] at e
          simp only [decide_eq_true c3, cond_true, e]
        · by_cases c4 : v = s.1
          · have e := step (s.1, s.2 ++ [(j : Int)]) (by rw [if_neg c1, if_neg (by omega), if_pos c4])
            simp only [hm] at e
            simp only [decide_eq_false c3, cond_false, c4, beq_self_eq_true, cond_true, e]
            simp only [Int.lt_irrefl, gt_iff_lt, decide_false, cond_false]
          · have e := step s (by rw [if_neg c1, if_neg (by omega), if_neg c4])
            simp only [hm] at e
            have hb4 : (v == s.1) = false := by simp [c4]
            simp only [decide_eq_false c3, cond_false, hb4, e]
  · have : i = ws.length := by omega
    subst this
    simp [bestL]

theorem iLow_eq {k : Nat} (K : 2^42 ≤ k) {ws vals : List Int} (hl : ws.length ≤ 2^40) (hv : ws.all (inB 0 ((vals.length : Int) - 1)) = true) : impl_lowWinners.f k ws vals = some ((bestL false vals ws, ()), ()) := by
  unfold impl_lowWinners.f
  refine (impl_lowWinners.l4_for ws.length (fun i x1 x6 x9 x10 y => vals = x1 ∧ (bestRun false vals ws i).1 = x6 ∧ ws = x9 ∧ (ws.length : Int) = x10 ∧ (bestRun false vals ws i).2 = y) (fun _ _ _ _ _ _ => some ((bestL false vals ws, ()), ())) ?_ k 0 _ _ _ _ _ (Nat.zero_le _) ⟨rfl, by simp [bestRun], rfl, rfl, rfl⟩ (by omega))
  rintro i _ _ _ _ _ rec hi' ⟨rfl, rfl, rfl, rfl, rfl⟩ hrec
  unfold impl_lowWinners.s4
  by_cases h : i < ws.length
  · have hb := all_inB hv ws[i] (List.getElem_mem h)
    have e := hrec vals _ ws _ _ h ⟨rfl, rfl, rfl, rfl, rfl⟩
    have hlen := bestRun_len false vals ws i
    obtain ⟨j, hj⟩ := Int.eq_ofNat_of_zero_le hb.1
    have hj' : ws[i] = (j : Int) := hj
    have hjl : j < vals.length := by omega
    have hr : decide (((bestRun false vals ws i).2.length + 1) * 8 ≤ AM.maxBytes) = true := room (by omega) (by omega)
    have hr1 : decide (1 * 8 ≤ AM.maxBytes) = true := room (by omega) (by omega)
    rw [bestRun_succ h, hj'] at e
    obtain ⟨v, hv'⟩ : ∃ v, vals.getD j 0 = v := ⟨_, rfl⟩
    simp only [nn, ltD h, Bool.and_self, Int.toNat_natCast, getD_lt h, hj', ltD hjl, wrap_succ (show i < 2^62 by omega), cond_true, List.length_singleton, hr, hr1, beq_self_eq_true, hv']
    generalize bestRun false vals ws i = s at *
    have step : ∀ q, (if v < 0 then s else if s.1 < 0 ∨ v < s.1 then (v, [(j : Int)]) else if v = s.1 then (s.1, s.2 ++ [(j : Int)]) else s) = q → rec (vals, q.1, ws, (ws.length : Int), (i : Int) + 1, q.2) = some ((bestL false vals ws, ()), ()) := by
      intro q hq
      have : bestStep false vals s (j : Int) = q := by
        rw [← hq]
        unfold bestStep
        simp only [Int.toNat_natCast, hv', true_and, Bool.false_eq_true, false_and, false_or]
      rw [this] at e
      exact e
    clear e
    by_cases c1 : v < 0
    · have e := step s (by rw [if_pos c1])
      simp only [decide_eq_true c1, cond_true, e]
    · simp only [decide_eq_false c1, cond_false]
      by_cases c2 : s.1 < 0
      · have e := step (v, [(j : Int)]) (by rw [if_neg c1, if_pos (.inl c2)])
        simp only [decide_eq_true c2, cond_true, e]
      · simp only [decide_eq_false c2, cond_false]
        by_cases c3 : v < s.1
        · have e := step (v, [(j : Int)]) (by rw [if_neg c1, if_pos (.inr c3)])
          simp only [decide_eq_true c3, cond_true, e]
        · simp only [decide_eq_false c3, cond_false]
          by_cases c4 : v = s.1
          · have e := step (s.1, s.2 ++ [(j : Int)]) (by rw [if_neg c1, if_neg (by omega), if_pos c4])
            simp only [c4, beq_self_eq_true, cond_true, e]
          · have e := step s (by rw [if_neg c1, if_neg (by omega), if_neg c4])
            have hb4 : (v == s.1) = false := by simp [c4]
            simp only [hb4, cond_false, e]
  · have : i = ws.length := by omega
    subst this
    simp [bestL]

/-- Values that are at least -1. -/
def valsB (l : List Int) : Bool := l.all fun n => decide (-1 ≤ n)

theorem l13Values_eq {k : Nat} (K : 2^42 ≤ k) {l : List Int} (hl : l.length ≤ 2^40) (n : Int) : spec_l13Values.f k l n = some ((valsB l && ((l.length : Int) == n), ()), ()) := by
  unfold spec_l13Values.f valsB
  refine (spec_l13Values.l2_for l.length (fun _ x0 x1 => l = x0 ∧ n = x1) (fun i _ _ => some (((l.drop i).all (fun n => decide (-1 ≤ n)) && ((l.length : Int) == n), ()), ())) ?_ k 0 l n (Nat.zero_le _) ⟨rfl, rfl⟩ (by omega)).trans (by simp)
  rintro i _ _ rec hi ⟨rfl, rfl⟩ hrec
  unfold spec_l13Values.s2
  by_cases h : i < l.length
  · simp only [nn, ltD h, Bool.and_self, Int.toNat_natCast, getD_lt h, wrap_succ (show i < 2^62 by omega), cond_true, all_drop h, hrec _ _ h ⟨rfl, rfl⟩]
    by_cases c : l[i] < -1
    · simp only [decide_eq_true c, cond_true, decide_eq_false (show ¬ -1 ≤ l[i] by omega), Bool.false_and]
    · simp only [decide_eq_false c, cond_false, decide_eq_true (show -1 ≤ l[i] by omega), Bool.true_and]
  · have : i = l.length := by omega
    subst this
    simp

theorem areValues_eq {k : Nat} (K : 2^42 ≤ k) {l : List Int} (hl : l.length ≤ 2^40) : impl_areValues.f k l = some ((valsB l, ()), ()) := by
  unfold impl_areValues.f valsB
  refine (impl_areValues.i1001_i1002_l2_for l.length (fun _ x0 x7 => l = x0 ∧ (l.length : Int) = x7) (fun i _ _ => some (((l.drop i).all (fun n => decide (-1 ≤ n)), ()), ())) ?_ k 0 _ _ (Nat.zero_le _) ⟨rfl, rfl⟩ (by omega)).trans (by simp)
  rintro i _ _ rec hi ⟨rfl, rfl⟩ hrec
  unfold impl_areValues.i1001_i1002_s2 impl_areValues_1.f
  by_cases h : i < l.length
  · simp only [nn, ltD h, Bool.and_self, Int.toNat_natCast, getD_lt h, wrap_succ (show i < 2^62 by omega), cond_true, all_drop h, hrec _ _ h ⟨rfl, rfl⟩, Option.bind_some]
    by_cases c : l[i] < -1
    · have : decide ((i : Int) ≥ 0) = true := by simp
      simp only [decide_eq_true c, cond_true, decide_eq_false (show ¬ -1 ≤ l[i] by omega), Bool.false_and, this, Bool.not_true]
    · simp only [decide_eq_false c, cond_false, decide_eq_true (show -1 ≤ l[i] by omega), Bool.true_and]
  · have : i = l.length := by omega
    subst this
    simp

theorem wins_all {w : List Int} {n : Int} (h : wins w n = true) : w.all (inB 0 (n - 1)) = true := by
  simp only [wins, Bool.and_eq_true] at h; exact h.2.1

/-- Two lists' sums, place by place. -/
def addL (a b : List Int) : List Int := List.zipWith (fun x y => IntKind.wrap .i64 (x + y)) a b

theorem addL_len {y r : List Int} (h : r.length = y.length) : (addL y r).length = y.length := by simp [addL, h]

theorem addL_get {y r : List Int} {i : Nat} (h1 : i < y.length) (h2 : i < r.length) : (addL y r)[i]'(by simp [addL]; omega) = IntKind.wrap .i64 (y[i] + r[i]) := by simp [addL]

theorem i10005_eq {R : Type} {k : Nat} (K : 2^42 ≤ k) {y r : List Int} (hr : r.length = y.length) (hl : y.length ≤ 2^40) (v1 v2 : List Int) (ps : List (Int × ((List Int) × Unit))) (ln pi S F : Int) (a : Int) (w h : List Int) kx0 : impl_awarded.i10005_l1 (R := R) k k ((r.length : Int), 0, v1, v2, ps, ln, pi, y, r, S, F, a, w, h) kx0 = kx0 (v1, v2, ps, ln, pi, addL y r, S, F, a, w, h) := by
  have hA := addL_len hr
  refine (impl_awarded.i10005_l1_for r.length (fun i x14 x4096 x4097 x4102 x4103 x4104 y0 y2 z3 z4 z5_0 z5_1 y6 => (r.length : Int) = x14 ∧ v1 = x4096 ∧ v2 = x4097 ∧ ps = x4102 ∧ ln = x4103 ∧ pi = x4104 ∧ (addL y r).take i ++ y.drop i = y0 ∧ r = y2 ∧ S = z3 ∧ F = z4 ∧ a = z5_0 ∧ w = z5_1 ∧ h = y6) (fun _ _ _ _ _ _ _ _ _ _ _ _ _ _ => kx0 (v1, v2, ps, ln, pi, addL y r, S, F, a, w, h)) ?_ k 0 _ _ _ _ _ _ _ _ _ _ _ _ _ (Nat.zero_le _) ⟨rfl, rfl, rfl, rfl, rfl, rfl, by simp, rfl, rfl, rfl, rfl, rfl, rfl⟩ (by omega))
  rintro i _ _ _ _ _ _ _ _ _ _ _ _ _ rec hi ⟨rfl, rfl, rfl, rfl, rfl, rfl, rfl, rfl, rfl, rfl, rfl, rfl, rfl⟩ hrec
  unfold impl_awarded.i10005_s1
  by_cases h' : i < r.length
  · have hy : i < y.length := by omega
    have hu := upd_len (l := addL y r) (m := y) (i := i) hA (by omega)
    have hg := upd_get (l := addL y r) (m := y) (i := i) hA hy (0 : Int)
    have hs := upd_step (l := addL y r) (m := y) (i := i) (by omega) hy
    rw [addL_get hy h'] at hs
    have e := hrec _ _ _ _ _ _ _ _ _ _ _ _ _ h' ⟨rfl, rfl, rfl, rfl, rfl, rfl, rfl, rfl, rfl, rfl, rfl, rfl, rfl⟩
    simp only [nn, ltD h', hu, ltD hy, Bool.and_self, Int.toNat_natCast, getD_lt h', hg, hs, decide_eq_true h', decide_eq_true hy, wrap_succ (show i < 2^62 by omega), cond_true, e]
  · have : i = r.length := by omega
    subst this
    have hd : (addL y r).take r.length ++ y.drop r.length = addL y r := by
      rw [List.take_of_length_le (by omega), List.drop_eq_nil_of_le (by omega), List.append_nil]
    have hlt : decide ((r.length : Int) < (r.length : Int)) = false := by simp
    simp only [hlt, cond_false, hd]

theorem i11008_eq {R : Type} {k : Nat} (K : 2^42 ≤ k) {y r : List Int} (hr : r.length = y.length) (hl : y.length ≤ 2^40) (v1 v2 : List Int) (ps : List (Int × ((List Int) × Unit))) (ln pi S F : Int) kx0 : impl_awarded.i11008_l1 (R := R) k k ((r.length : Int), 0, v1, v2, ps, ln, pi, y, r, S, F) kx0 = kx0 (v1, v2, ps, ln, pi, addL y r, S, F) := by
  have hA := addL_len hr
  refine (impl_awarded.i11008_l1_for r.length (fun i x14 x4096 x4097 x4100 x4101 x4102 y0 y2 z3 z4 => (r.length : Int) = x14 ∧ v1 = x4096 ∧ v2 = x4097 ∧ ps = x4100 ∧ ln = x4101 ∧ pi = x4102 ∧ (addL y r).take i ++ y.drop i = y0 ∧ r = y2 ∧ S = z3 ∧ F = z4) (fun _ _ _ _ _ _ _ _ _ _ _ => kx0 (v1, v2, ps, ln, pi, addL y r, S, F)) ?_ k 0 _ _ _ _ _ _ _ _ _ _ (Nat.zero_le _) ⟨rfl, rfl, rfl, rfl, rfl, rfl, by simp, rfl, rfl, rfl⟩ (by omega))
  rintro i _ _ _ _ _ _ _ _ _ _ rec hi ⟨rfl, rfl, rfl, rfl, rfl, rfl, rfl, rfl, rfl, rfl⟩ hrec
  unfold impl_awarded.i11008_s1
  by_cases h' : i < r.length
  · have hy : i < y.length := by omega
    have hu := upd_len (l := addL y r) (m := y) (i := i) hA (by omega)
    have hg := upd_get (l := addL y r) (m := y) (i := i) hA hy (0 : Int)
    have hs := upd_step (l := addL y r) (m := y) (i := i) (by omega) hy
    rw [addL_get hy h'] at hs
    have e := hrec _ _ _ _ _ _ _ _ _ _ h' ⟨rfl, rfl, rfl, rfl, rfl, rfl, rfl, rfl, rfl, rfl⟩
    simp only [nn, ltD h', hu, ltD hy, Bool.and_self, Int.toNat_natCast, getD_lt h', hg, hs, decide_eq_true h', decide_eq_true hy, wrap_succ (show i < 2^62 by omega), cond_true, e]
  · have : i = r.length := by omega
    subst this
    have hd : (addL y r).take r.length ++ y.drop r.length = addL y r := by
      rw [List.take_of_length_le (by omega), List.drop_eq_nil_of_le (by omega), List.append_nil]
    have hlt : decide ((r.length : Int) < (r.length : Int)) = false := by simp
    simp only [hlt, cond_false, hd]

theorem i13004_eq {R : Type} {k : Nat} (K : 2^42 ≤ k) {y r : List Int} (hr : r.length = y.length) (hl : y.length ≤ 2^40) (v1 v2 : List Int) (ps : List (Int × ((List Int) × Unit))) (ln pi S F : Int) kx0 : impl_awarded.i13004_l1 (R := R) k k ((r.length : Int), 0, v1, v2, ps, ln, pi, y, r, S, F) kx0 = kx0 (v1, v2, ps, ln, pi, addL y r, S, F) := by
  have hA := addL_len hr
  refine (impl_awarded.i13004_l1_for r.length (fun i x14 x4096 x4097 x4100 x4101 x4102 y0 y2 z3 z4 => (r.length : Int) = x14 ∧ v1 = x4096 ∧ v2 = x4097 ∧ ps = x4100 ∧ ln = x4101 ∧ pi = x4102 ∧ (addL y r).take i ++ y.drop i = y0 ∧ r = y2 ∧ S = z3 ∧ F = z4) (fun _ _ _ _ _ _ _ _ _ _ _ => kx0 (v1, v2, ps, ln, pi, addL y r, S, F)) ?_ k 0 _ _ _ _ _ _ _ _ _ _ (Nat.zero_le _) ⟨rfl, rfl, rfl, rfl, rfl, rfl, by simp, rfl, rfl, rfl⟩ (by omega))
  rintro i _ _ _ _ _ _ _ _ _ _ rec hi ⟨rfl, rfl, rfl, rfl, rfl, rfl, rfl, rfl, rfl, rfl⟩ hrec
  unfold impl_awarded.i13004_s1
  by_cases h' : i < r.length
  · have hy : i < y.length := by omega
    have hu := upd_len (l := addL y r) (m := y) (i := i) hA (by omega)
    have hg := upd_get (l := addL y r) (m := y) (i := i) hA hy (0 : Int)
    have hs := upd_step (l := addL y r) (m := y) (i := i) (by omega) hy
    rw [addL_get hy h'] at hs
    have e := hrec _ _ _ _ _ _ _ _ _ _ h' ⟨rfl, rfl, rfl, rfl, rfl, rfl, rfl, rfl, rfl, rfl⟩
    simp only [nn, ltD h', hu, ltD hy, Bool.and_self, Int.toNat_natCast, getD_lt h', hg, hs, decide_eq_true h', decide_eq_true hy, wrap_succ (show i < 2^62 by omega), cond_true, e]
  · have : i = r.length := by omega
    subst this
    have hd : (addL y r).take r.length ++ y.drop r.length = addL y r := by
      rw [List.take_of_length_le (by omega), List.drop_eq_nil_of_le (by omega), List.append_nil]
    have hlt : decide ((r.length : Int) < (r.length : Int)) = false := by simp
    simp only [hlt, cond_false, hd]

theorem i15004_eq {R : Type} {k : Nat} (K : 2^42 ≤ k) {y r : List Int} (hr : r.length = y.length) (hl : y.length ≤ 2^40) (v1 v2 : List Int) (ps : List (Int × ((List Int) × Unit))) (ln pi S F : Int) kx0 : impl_awarded.i15004_l1 (R := R) k k ((r.length : Int), 0, v1, v2, ps, ln, pi, y, r, S, F) kx0 = kx0 (v1, v2, ps, ln, pi, addL y r, S, F) := by
  have hA := addL_len hr
  refine (impl_awarded.i15004_l1_for r.length (fun i x14 x4096 x4097 x4100 x4101 x4102 y0 y2 z3 z4 => (r.length : Int) = x14 ∧ v1 = x4096 ∧ v2 = x4097 ∧ ps = x4100 ∧ ln = x4101 ∧ pi = x4102 ∧ (addL y r).take i ++ y.drop i = y0 ∧ r = y2 ∧ S = z3 ∧ F = z4) (fun _ _ _ _ _ _ _ _ _ _ _ => kx0 (v1, v2, ps, ln, pi, addL y r, S, F)) ?_ k 0 _ _ _ _ _ _ _ _ _ _ (Nat.zero_le _) ⟨rfl, rfl, rfl, rfl, rfl, rfl, by simp, rfl, rfl, rfl⟩ (by omega))
  rintro i _ _ _ _ _ _ _ _ _ _ rec hi ⟨rfl, rfl, rfl, rfl, rfl, rfl, rfl, rfl, rfl, rfl⟩ hrec
  unfold impl_awarded.i15004_s1
  by_cases h' : i < r.length
  · have hy : i < y.length := by omega
    have hu := upd_len (l := addL y r) (m := y) (i := i) hA (by omega)
    have hg := upd_get (l := addL y r) (m := y) (i := i) hA hy (0 : Int)
    have hs := upd_step (l := addL y r) (m := y) (i := i) (by omega) hy
    rw [addL_get hy h'] at hs
    have e := hrec _ _ _ _ _ _ _ _ _ _ h' ⟨rfl, rfl, rfl, rfl, rfl, rfl, rfl, rfl, rfl, rfl⟩
    simp only [nn, ltD h', hu, ltD hy, Bool.and_self, Int.toNat_natCast, getD_lt h', hg, hs, decide_eq_true h', decide_eq_true hy, wrap_succ (show i < 2^62 by omega), cond_true, e]
  · have : i = r.length := by omega
    subst this
    have hd : (addL y r).take r.length ++ y.drop r.length = addL y r := by
      rw [List.take_of_length_le (by omega), List.drop_eq_nil_of_le (by omega), List.append_nil]
    have hlt : decide ((r.length : Int) < (r.length : Int)) = false := by simp
    simp only [hlt, cond_false, hd]

theorem i8005_eq {R : Type} {k : Nat} (K : 2^42 ≤ k) {y r : List Int} (hr : r.length = y.length) (hl : y.length ≤ 2^40) (v1 v2 : List Int) (ps : List (Int × ((List Int) × Unit))) (ln pi S F : Int) kx0 : impl_awarded.i8005_l1 (R := R) k k ((r.length : Int), 0, v1, v2, ps, ln, pi, y, r, S, F) kx0 = kx0 (v1, v2, ps, ln, pi, addL y r, S, F) := by
  have hA := addL_len hr
  refine (impl_awarded.i8005_l1_for r.length (fun i x14 x4096 x4097 x4100 x4101 x4102 y0 y2 z3 z4 => (r.length : Int) = x14 ∧ v1 = x4096 ∧ v2 = x4097 ∧ ps = x4100 ∧ ln = x4101 ∧ pi = x4102 ∧ (addL y r).take i ++ y.drop i = y0 ∧ r = y2 ∧ S = z3 ∧ F = z4) (fun _ _ _ _ _ _ _ _ _ _ _ => kx0 (v1, v2, ps, ln, pi, addL y r, S, F)) ?_ k 0 _ _ _ _ _ _ _ _ _ _ (Nat.zero_le _) ⟨rfl, rfl, rfl, rfl, rfl, rfl, by simp, rfl, rfl, rfl⟩ (by omega))
  rintro i _ _ _ _ _ _ _ _ _ _ rec hi ⟨rfl, rfl, rfl, rfl, rfl, rfl, rfl, rfl, rfl, rfl⟩ hrec
  unfold impl_awarded.i8005_s1
  by_cases h' : i < r.length
  · have hy : i < y.length := by omega
    have hu := upd_len (l := addL y r) (m := y) (i := i) hA (by omega)
    have hg := upd_get (l := addL y r) (m := y) (i := i) hA hy (0 : Int)
    have hs := upd_step (l := addL y r) (m := y) (i := i) (by omega) hy
    rw [addL_get hy h'] at hs
    have e := hrec _ _ _ _ _ _ _ _ _ _ h' ⟨rfl, rfl, rfl, rfl, rfl, rfl, rfl, rfl, rfl, rfl⟩
    simp only [nn, ltD h', hu, ltD hy, Bool.and_self, Int.toNat_natCast, getD_lt h', hg, hs, decide_eq_true h', decide_eq_true hy, wrap_succ (show i < 2^62 by omega), cond_true, e]
  · have : i = r.length := by omega
    subst this
    have hd : (addL y r).take r.length ++ y.drop r.length = addL y r := by
      rw [List.take_of_length_le (by omega), List.drop_eq_nil_of_le (by omega), List.append_nil]
    have hlt : decide ((r.length : Int) < (r.length : Int)) = false := by simp
    simp only [hlt, cond_false, hd]

theorem l13Add_eq {k : Nat} (K : 2^42 ≤ k) {y r : List Int} (hr : r.length = y.length) (hl : y.length ≤ 2^40) : spec_l13Add.f k y r = some ((addL y r, ()), ()) := by
  unfold spec_l13Add.f
  have hA := addL_len hr
  refine (spec_l13Add.l3_for y.length (fun i x0 x1 y0 => y = x0 ∧ r = x1 ∧ (addL y r).take i = y0) (fun _ _ _ _ => some ((addL y r, ()), ())) ?_ k 0 _ _ _ (Nat.zero_le _) ⟨rfl, rfl, rfl⟩ (by omega))
  rintro i _ _ _ rec hi ⟨rfl, rfl, rfl⟩ hrec
  unfold spec_l13Add.s3
  by_cases h : i < y.length
  · have h2 : i < r.length := by omega
    have hs := take_snoc (l := addL y r) (i := i) (by omega)
    rw [addL_get h h2] at hs
    have e := hrec _ _ _ h ⟨rfl, rfl, rfl⟩
    have hm : decide ((((addL y r).take i).length + 1) * 8 ≤ AM.maxBytes) = true := room (by simp; omega) (by omega)
    simp only [nn, ltD h, ltD h2, Bool.and_self, Int.toNat_natCast, getD_lt h, getD_lt h2, List.length_singleton, hm, hs, wrap_succ (show i < 2^62 by omega), cond_true, e]
  · have : i = y.length := by omega
    subst this
    have hd : (addL y r).take y.length = addL y r := List.take_of_length_le (by omega)
    have hlt : decide ((y.length : Int) < (y.length : Int)) = false := by simp
    simp only [hlt, cond_false, hd]

/-- One pot's shares as the reference has them. -/
def awardL (a : Int) (w v1 v2 : List Int) (S F : Nat) : List Int :=
  if 0 < (bestL true v1 w).length then (if 0 < (bestL false v2 w).length then addL (splitL (bestL true v1 w) S F (a - a.tdiv 2)) (splitL (bestL false v2 w) S F (a.tdiv 2)) else splitL (bestL true v1 w) S F a)
  else if 0 < (bestL false v2 w).length then splitL (bestL false v2 w) S F a else splitL w S F a

/-- A pot's shares added to what is awarded, as the program does it. -/
def awStep (v1 v2 : List Int) (S F : Nat) (y : List Int) (p : Int × List Int × Unit) : List Int :=
  if 0 < (bestL true v1 p.2.1).length ∧ 0 < (bestL false v2 p.2.1).length then addL (addL y (splitL (bestL false v2 p.2.1) S F (p.1.tdiv 2))) (splitL (bestL true v1 p.2.1) S F (p.1 - p.1.tdiv 2)) else addL y (awardL p.1 p.2.1 v1 v2 S F)

theorem splitL_len (w : List Int) (S F : Nat) (a : Int) : (splitL w S F a).length = S := spRun_len w S F a S

theorem awardL_len (a : Int) (w v1 v2 : List Int) (S F : Nat) : (awardL a w v1 v2 S F).length = S := by
  unfold awardL
  split
  · split
    · rw [addL_len (by rw [splitL_len, splitL_len]), splitL_len]
    · exact splitL_len _ _ _ _
  · split <;> exact splitL_len _ _ _ _

def awRun (ps : List (Int × List Int × Unit)) (v1 v2 : List Int) (S F i : Nat) : List Int := (ps.take i).foldl (awStep v1 v2 S F) (List.replicate S 0)

theorem awStep_len {v1 v2 : List Int} {S F : Nat} {y : List Int} (h : y.length = S) (p : Int × List Int × Unit) : (awStep v1 v2 S F y p).length = S := by
  unfold awStep
  split
  · rw [addL_len (by rw [splitL_len, addL_len (by rw [splitL_len, h]), h]), addL_len (by rw [splitL_len, h]), h]
  · rw [addL_len (by rw [awardL_len, h]), h]

theorem awRun_succ {ps : List (Int × List Int × Unit)} {v1 v2 : List Int} {S F i : Nat} (h : i < ps.length) : awRun ps v1 v2 S F (i + 1) = awStep v1 v2 S F (awRun ps v1 v2 S F i) ps[i] := by
  unfold awRun; rw [← List.take_append_getElem h, List.foldl_append]; rfl

theorem awRun_len (ps : List (Int × List Int × Unit)) (v1 v2 : List Int) (S F : Nat) : ∀ i, (awRun ps v1 v2 S F i).length = S
  | 0 => by simp [awRun]
  | i + 1 => by
    by_cases h : i < ps.length
    · rw [awRun_succ h]; exact awStep_len (awRun_len ps v1 v2 S F i) _
    · have e : ps.take (i + 1) = ps.take i := by rw [List.take_of_length_le (by omega), List.take_of_length_le (by omega)]
      have := awRun_len ps v1 v2 S F i
      unfold awRun at *
      rw [e]; exact this

theorem bestL_len (hi : Bool) (v w : List Int) : (bestL hi v w).length ≤ w.length := bestRun_len hi v w w.length

theorem half {a : Int} (h0 : 0 ≤ a) : 0 ≤ a.tdiv 2 ∧ a.tdiv 2 ≤ a := ⟨Int.tdiv_nonneg h0 (by omega), Int.tdiv_le_self _ h0⟩

theorem gt0 {n : Nat} (h : 0 < n) : decide ((n : Int) > 0) = true := by simp; omega

theorem not_gt0 {n : Nat} (h : ¬ 0 < n) : decide ((n : Int) > 0) = false := by simp; omega

theorem two0 : decide ((2 : Int) = 0) = false := by decide

theorem spRun_in (w : List Int) (S F : Nat) {a : Int} (h0 : 0 ≤ a) : ∀ i, ∀ x ∈ (spRun w S F a i).2, 0 ≤ x ∧ x ≤ a + 1
  | 0 => by
    intro x hx
    simp only [spRun, List.range_zero, List.foldl_nil] at hx
    have := List.eq_of_mem_replicate hx
    omega
  | i + 1 => by
    have ih := spRun_in w S F h0 i
    have hd := div_le (n := w.length) h0
    intro x hx
    rw [spRun_succ] at hx
    unfold spStep at hx
    split at hx
    · split at hx
      · rcases List.mem_or_eq_of_mem_set hx with h | h
        · exact ih x h
        · omega
      · rcases List.mem_or_eq_of_mem_set hx with h | h
        · exact ih x h
        · omega
    · exact ih x hx

def UpTo (l : List Int) (n : Nat) : Prop := ∀ p q, p < q → q < n → l.getD p 0 ≤ l.getD q 0

def StrictTo (l : List Int) (n : Nat) : Prop := ∀ p q, p < q → q < n → l.getD p 0 < l.getD q 0

def Strict (l : List Int) : Prop := StrictTo l l.length

theorem mem_getD {l : List Int} {x : Int} : x ∈ l ↔ ∃ p, p < l.length ∧ l.getD p 0 = x := by
  rw [List.mem_iff_getElem]
  constructor
  · rintro ⟨p, hp, rfl⟩; exact ⟨p, hp, getD_lt hp 0⟩
  · rintro ⟨p, hp, rfl⟩; exact ⟨p, hp, (getD_lt hp 0).symm⟩

theorem set_getD {l : List Int} {a : Nat} (h : a < l.length) (x : Int) (p : Nat) : (l.set a x).getD p 0 = if p = a then x else l.getD p 0 := by
  rw [List.getD_eq_getElem?_getD, List.getD_eq_getElem?_getD, List.getElem?_set]
  by_cases c : a = p
  · subst c; simp [h]
  · rw [if_neg c, if_neg (fun h => c h.symm)]

theorem Strict.cons {a : Int} {l : List Int} (h : Strict (a :: l)) : Strict l ∧ ∀ x ∈ l, a < x := by
  refine ⟨fun p q hpq hq => ?_, fun x hx => ?_⟩
  · have := h (p + 1) (q + 1) (by omega) (by simpa using hq)
    simpa using this
  · obtain ⟨p, hp, rfl⟩ := mem_getD.1 hx
    have := h 0 (p + 1) (by omega) (by simpa using hp)
    simpa using this

theorem Strict.uniq : ∀ {a b : List Int}, Strict a → Strict b → (∀ x, x ∈ a ↔ x ∈ b) → a = b
  | [], [], _, _, _ => rfl
  | [], y :: b, _, _, h => by have := (h y).2 (by simp); simp at this
  | x :: a, [], _, _, h => by have := (h x).1 (by simp); simp at this
  | x :: a, y :: b, ha, hb, h => by
    have ha' := ha.cons
    have hb' := hb.cons
    have e : x = y := by
      rcases List.mem_cons.1 ((h x).1 (by simp)) with e | e
      · exact e
      · rcases List.mem_cons.1 ((h y).2 (by simp)) with e' | e'
        · exact e'.symm
        · have := ha'.2 y e'; have := hb'.2 x e; omega
    subst e
    have : a = b := Strict.uniq ha'.1 hb'.1 fun z => by
      constructor
      · intro hz
        rcases List.mem_cons.1 ((h z).1 (List.mem_cons_of_mem _ hz)) with e | e
        · have := ha'.2 z hz; omega
        · exact e
      · intro hz
        rcases List.mem_cons.1 ((h z).2 (List.mem_cons_of_mem _ hz)) with e | e
        · have := hb'.2 z hz; omega
        · exact e
    rw [this]

theorem swap_mem {l : List Int} {a b : Nat} (ha : a < l.length) (hb : b < l.length) (hab : a ≠ b) (x : Int) : x ∈ (l.set a (l.getD b 0)).set b (l.getD a 0) ↔ x ∈ l := by
  have e : ∀ p, ((l.set a (l.getD b 0)).set b (l.getD a 0)).getD p 0 = if p = b then l.getD a 0 else if p = a then l.getD b 0 else l.getD p 0 := by
    intro p
    rw [set_getD (by simpa using hb), set_getD ha]
  rw [mem_getD, mem_getD]
  simp only [List.length_set, e]
  constructor
  · rintro ⟨p, hp, rfl⟩
    by_cases c : p = b
    · exact ⟨a, ha, by rw [if_pos c]⟩
    · by_cases c' : p = a
      · exact ⟨b, hb, by rw [if_neg c, if_pos c']⟩
      · exact ⟨p, hp, by rw [if_neg c, if_neg c']⟩
  · rintro ⟨p, hp, rfl⟩
    by_cases c : p = b
    · subst c; exact ⟨a, ha, by rw [if_neg hab, if_pos rfl]⟩
    · by_cases c' : p = a
      · subst c'; exact ⟨b, hb, by rw [if_pos rfl]⟩
      · exact ⟨p, hp, by rw [if_neg c, if_neg c']⟩

theorem cmp_Less_eq (k : Nat) (a b : Int) : cmp_Less_int64.f k a b = some ((decide (a < b), ()), ()) := by
  unfold cmp_Less_int64.f cmp_isNaN_int64.f
  simp

theorem inner_eq {R : Type} {k : Nat} (K : 2^42 ≤ k) {n i : Nat} {m : List Bool} {y y1 : List Int} (hn : y.length = n) (hi : i < n) (hs : n ≤ 2^40) (hu : UpTo y i) (res : Option R) (kx2 : Int × Int × Int × List Bool × List Int × List Int → Option R)
    (hk : ∀ z, z.length = n → (∀ x, x ∈ z ↔ x ∈ y) → UpTo z (i + 1) → kx2 (0, (n : Int), (i : Int), m, z, y1) = res) : impl_potsOf.i9001_i1005_i4003_l4 k k (0, (n : Int), (i : Int), (i : Int), m, y, y1) kx2 = res := by
  refine impl_potsOf.i9001_i1005_i4003_l4_fix (fun v => ∃ (j : Nat) (z : List Int), j ≤ i ∧ v = (0, (n : Int), (i : Int), (j : Int), m, z, y1) ∧ z.length = n ∧ (∀ x, x ∈ z ↔ x ∈ y) ∧ ∀ p q, p < q → q ≤ i → q ≠ j → z.getD p 0 ≤ z.getD q 0) (fun v => v.2.2.2.1.toNat) (fun _ => res) ?_ k _ ⟨i, y, Nat.le_refl _, rfl, hn, fun _ => Iff.rfl, fun p q h1 h2 h3 => hu p q h1 (by omega)⟩ (by simp only [Int.toNat_natCast]; omega)
  rintro _ rec ⟨j, z, hj, rfl, hz, hm, hq⟩ hrec
  unfold impl_potsOf.i9001_i1005_i4003_s4
  by_cases h0 : j = 0
  · subst h0
    have : decide (((0 : Nat) : Int) > 0) = false := rfl
    simp only [this, cond_false]
    exact hk z hz hm (fun p q h1 h2 => hq p q h1 (by omega) (by omega))
  · have c0 : decide ((j : Int) > 0) = true := by simp; omega
    have wp : IntKind.wrap .i64 ((j : Int) - 1) = ((j - 1 : Nat) : Int) := wrap_pred (by omega) (by omega)
    have hjl : j < z.length := by omega
    have hjl' : j - 1 < z.length := by omega
    simp only [c0, cond_true, wp, nn, ltD hjl, ltD hjl', Bool.and_self, Int.toNat_natCast, decide_eq_true hjl, decide_eq_true hjl', cmp_Less_eq, Option.bind_some, List.length_set]
    by_cases c : z.getD j 0 < z.getD (j - 1) 0
    · simp only [decide_eq_true c, cond_true]
      refine hrec _ ⟨j - 1, _, by omega, rfl, by simp [hz], fun x => (swap_mem hjl hjl' (by omega) x).trans (hm x), ?_⟩ (by simp only [Int.toNat_natCast]; omega)
      intro p q h1 h2 h3
      rw [set_getD (by simpa using hjl'), set_getD hjl, set_getD (by simpa using hjl'), set_getD hjl]
      rw [if_neg h3]
      by_cases c1 : q = j
      · rw [if_pos c1]
        by_cases c2 : p = j - 1
        · rw [if_pos c2]; omega
        · rw [if_neg c2, if_neg (by omega)]; exact hq p (j - 1) (by omega) (by omega) (by omega)
      · rw [if_neg c1]
        by_cases c2 : p = j - 1
        · rw [if_pos c2]; exact hq j q (by omega) h2 c1
        · rw [if_neg c2]
          by_cases c3 : p = j
          · rw [if_pos c3]; exact hq (j - 1) q (by omega) h2 c1
          · rw [if_neg c3]; exact hq p q h1 h2 c1
    · simp only [decide_eq_false c, cond_false]
      refine hk z hz hm (fun p q h1 h2 => ?_)
      by_cases c1 : q = j
      · subst c1
        by_cases c2 : p = q - 1
        · subst c2; omega
        · have := hq p (q - 1) (by omega) (by omega) (by omega); omega
      · exact hq p q h1 (by omega) c1

theorem sort_eq {R : Type} {k : Nat} (K : 2^42 ≤ k) {m : List Bool} {y y1 : List Int} (hn : y.length ≤ 12) (b : Int) (res : Option R) (kr : List Bool × List Int × List Int → Option R)
    (hk : ∀ z, z.length = y.length → (∀ x, x ∈ z ↔ x ∈ y) → UpTo z z.length → kr (m, y1, z) = res) : impl_potsOf.i9001_i1005_l2 k k (0, (y.length : Int), b, true, true, m, y, y1) kr = res := by
  obtain ⟨k, rfl⟩ : ∃ j, k = j + 1 := ⟨k - 1, by omega⟩
  unfold impl_potsOf.i9001_i1005_l2 impl_potsOf.i9001_i1005_s2
  have w0 : IntKind.wrap .i64 ((y.length : Int) - 0) = (y.length : Int) := by rw [Int.sub_zero]; exact wrap_id (by omega) (by omega)
  have d0 : decide ((y.length : Int) ≤ 12) = true := by simp; omega
  have w1 : IntKind.wrap .i64 ((0 : Int) + 1) = ((1 : Nat) : Int) := by decide
  simp only [w0, d0, w1, cond_true]
  refine impl_potsOf.i9001_i1005_i4003_l1_fix (fun v => ∃ (i : Nat) (z : List Int), v = (0, (y.length : Int), (i : Int), m, z, y1) ∧ 1 ≤ i ∧ z.length = y.length ∧ (∀ x, x ∈ z ↔ x ∈ y) ∧ UpTo z (min i y.length)) (fun v => y.length - v.2.2.1.toNat) (fun _ => res) ?_ (k + 1) _ ⟨1, y, rfl, Nat.le_refl _, rfl, fun _ => Iff.rfl, fun p q h1 h2 => by omega⟩ (by omega)
  rintro _ rec ⟨i, z, rfl, hi, hz, hm, hu⟩ hrec
  unfold impl_potsOf.i9001_i1005_i4003_s1
  by_cases h : i < y.length
  · simp only [ltD h, cond_true]
    refine inner_eq K hz h (by omega) (fun p q h1 h2 => hu p q h1 (by omega)) res _ (fun z' hz' hm' hu' => ?_)
    simp only [wrap_succ (show i < 2^62 by omega)]
    exact hrec _ ⟨i + 1, z', rfl, by omega, hz', fun x => (hm' x).trans (hm x), fun p q h1 h2 => hu' p q h1 (by omega)⟩ (by simp only; omega)
  · have c : decide ((i : Int) < (y.length : Int)) = false := by simp; omega
    simp only [c, cond_false]
    exact hk z hz hm (fun p q h1 h2 => hu p q h1 (by omega))

theorem addO_eq : ∀ a b, AM.addO a b = a + b
  | 0, b => by simp [AM.addO]
  | a + 1, b => rfl

theorem getD_take {l : List Int} {c p : Nat} (h : p < c) : (l.take c).getD p 0 = l.getD p 0 := by
  rw [List.getD_eq_getElem?_getD, List.getD_eq_getElem?_getD, List.getElem?_take_of_lt h]

theorem squeeze_eq {R : Type} {k : Nat} (K : 2^42 ≤ k) {m : List Bool} {z y1 : List Int} {x9 : Int} (hl : z.length ≤ 2^40) (hu : UpTo z z.length) {b : Nat} (hb : 1 ≤ b) (hbl : b < z.length) (hs : StrictTo z b) (he : z.getD b 0 = z.getD (b - 1) 0) (res : Option R) (kx2 : Int × List Bool × Int × List Int × List Int → Option R)
    (hk : ∀ (c : Nat) y, c ≤ y.length → y.length = z.length → Strict (y.take c) → (∀ x, x ∈ y.take c ↔ x ∈ z) → kx2 ((c : Int), m, x9, y, y1) = res) : impl_potsOf.i12001_l9 k k ((b : Int), b, z.length - b, 1, m, x9, z, y1) kx2 = res := by
  refine impl_potsOf.i12001_l9_for (z.length - b) (fun j x3 x4o x4n x4097 x4099 y0 y1' => ∃ c : Nat, x3 = (c : Int) ∧ x4o = b ∧ x4n = z.length - b ∧ m = x4097 ∧ x9 = x4099 ∧ y1 = y1' ∧ y0.length = z.length ∧ 1 ≤ c ∧ 1 ≤ j ∧ c ≤ b + j - 1 ∧ (∀ q, b + j - 1 ≤ q → y0.getD q 0 = z.getD q 0) ∧ StrictTo y0 c ∧ y0.getD (c - 1) 0 = z.getD (b + j - 1) 0 ∧ ∀ x, (∃ p, p < c ∧ y0.getD p 0 = x) ↔ ∃ p, p < b + j ∧ z.getD p 0 = x) (fun _ _ _ _ _ _ _ _ => res) ?_ k 1 _ _ _ _ _ _ _ (by omega) ⟨b, rfl, rfl, rfl, rfl, rfl, rfl, rfl, hb, by omega, by omega, fun q _ => rfl, hs, ?_, ?_⟩ (by omega)
  · rintro j _ b _ _ _ y0 _ rec hj ⟨c, rfl, rfl, rfl, rfl, rfl, rfl, hy, hc, hj1, hcb, hq, hst, hlast, hmem⟩ hrec
    unfold impl_potsOf.i12001_s9
    by_cases h : j < z.length - b
    · have wp : IntKind.wrap .i64 ((j : Int) - 1) = ((j - 1 : Nat) : Int) := wrap_pred (by omega) (by omega)
      have h' : j - 1 < z.length - b := by omega
      have a1 : b + j < y0.length := by omega
      have a2 : b + (j - 1) < y0.length := by omega
      have a3 : c < y0.length := by omega
      have g1 := hq (b + j) (by omega)
      have g2 := hq (b + (j - 1)) (by omega)
      have e2 : b + (j - 1) = b + j - 1 := by omega
      have hle := hu (b + (j - 1)) (b + j) (by omega) (by omega)
      simp only [ltD h, ltD h', nn, cond_true, Bool.and_self, wp, Int.toNat_natCast, addO_eq, decide_eq_true a1, decide_eq_true a2, g1, g2, ltD a3, decide_eq_true a3, wrap_succ (show j < 2^62 by omega), wrap_succ (show c < 2^62 by omega)]
      by_cases d : z.getD (b + j) 0 = z.getD (b + (j - 1)) 0
      · have d' : (z.getD (b + j) 0 != z.getD (b + (j - 1)) 0) = false := by rw [bne_eq_false_iff_eq]; exact d
        simp only [d', cond_false]
        refine hrec _ _ _ _ _ _ _ h ⟨c, rfl, rfl, rfl, rfl, rfl, rfl, hy, hc, by omega, by omega, fun q hq' => hq q (by omega), hst, ?_, fun x => (hmem x).trans ?_⟩
        · rw [hlast, ← e2, ← d]; congr 1
        · constructor
          · rintro ⟨p, hp, rfl⟩; exact ⟨p, by omega, rfl⟩
          · rintro ⟨p, hp, rfl⟩
            by_cases cp : p = b + j
            · subst cp; exact ⟨b + (j - 1), by omega, d.symm⟩
            · exact ⟨p, by omega, rfl⟩
      · have d' : (z.getD (b + j) 0 != z.getD (b + (j - 1)) 0) = true := by rw [bne_iff_ne]; exact d
        simp only [d', cond_true]
        have hlt : y0.getD (c - 1) 0 < z.getD (b + j) 0 := by rw [hlast, ← e2]; omega
        refine hrec _ _ _ _ _ _ _ h ⟨c + 1, rfl, rfl, rfl, rfl, rfl, rfl, by simpa using hy, by omega, by omega, by omega, fun q hq' => ?_, ?_, ?_, fun x => ?_⟩
        · rw [set_getD a3, if_neg (by omega)]; exact hq q (by omega)
        · intro p q h1 h2
          rw [set_getD a3, set_getD a3]
          rw [if_neg (show p ≠ c by omega)]
          by_cases cq : q = c
          · rw [if_pos cq]
            by_cases cp : p = c - 1
            · subst cp; exact hlt
            · have := hst p (c - 1) (by omega) (by omega); omega
          · rw [if_neg cq]; exact hst p q h1 (by omega)
        · rw [set_getD a3, if_pos (by omega)]; congr 1
        · constructor
          · rintro ⟨p, hp, rfl⟩
            rw [set_getD a3]
            by_cases cp : p = c
            · rw [if_pos cp]; exact ⟨b + j, by omega, rfl⟩
            · rw [if_neg cp]
              obtain ⟨p', hp', e'⟩ := (hmem _).1 ⟨p, by omega, rfl⟩
              exact ⟨p', by omega, e'⟩
          · rintro ⟨p, hp, rfl⟩
            by_cases cp : p = b + j
            · subst cp; exact ⟨c, by omega, by rw [set_getD a3, if_pos rfl]⟩
            · obtain ⟨p', hp', e'⟩ := (hmem (z.getD p 0)).2 ⟨p, by omega, rfl⟩
              exact ⟨p', by omega, by rw [set_getD a3, if_neg (by omega)]; exact e'⟩
    · have : j = z.length - b := by omega
      subst this
      have c0 : decide ((((z.length - b : Nat)) : Int) < ((z.length - b : Nat) : Int)) = false := by simp
      simp only [c0, cond_false]
      refine hk c y0 (by omega) hy (fun p q h1 h2 => ?_) (fun x => ?_)
      · have hqc : q < c := by rw [List.length_take] at h2; omega
        rw [getD_take (by omega), getD_take hqc]; exact hst p q h1 hqc
      · rw [mem_getD, mem_getD]
        constructor
        · rintro ⟨p, hp, rfl⟩
          rw [List.length_take] at hp
          rw [getD_take (by omega)]
          obtain ⟨p', hp', e'⟩ := (hmem _).1 ⟨p, by omega, rfl⟩
          exact ⟨p', by omega, e'⟩
        · rintro ⟨p, hp, rfl⟩
          obtain ⟨p', hp', e'⟩ := (hmem (z.getD p 0)).2 ⟨p, by omega, rfl⟩
          exact ⟨p', by rw [List.length_take]; omega, by rw [getD_take hp']; exact e'⟩
  · rw [show b + 1 - 1 = b by omega]; exact he.symm
  · intro x
    constructor
    · rintro ⟨p, hp, rfl⟩; exact ⟨p, by omega, rfl⟩
    · rintro ⟨p, hp, rfl⟩
      by_cases cp : p = b
      · subst cp; exact ⟨p - 1, by omega, he.symm⟩
      · exact ⟨p, by omega, rfl⟩

theorem compact_eq {R : Type} {k : Nat} (K : 2^42 ≤ k) {m : List Bool} {z y1 : List Int} {x9 : Int} (hl : z.length ≤ 2^40) (h2 : 2 ≤ z.length) (hu : UpTo z z.length) (res : Option R) (kx0 : List Bool × Int × List Int × List Int → Option R) (kr : Nat × Nat × List Bool × Int × List Int × List Int → Option R)
    (hk : Strict z → kx0 (m, x9, z, y1) = res) (hr : ∀ (c : Nat) y, Strict (y.take c) → (y.take c).length = c → (∀ x, x ∈ y.take c ↔ x ∈ z) → kr (0, c, m, x9, y, y1) = res) : impl_potsOf.i12001_l4 k k (1, m, x9, z, y1) kx0 kr = res := by
  refine impl_potsOf.i12001_l4_for z.length (fun i a b y0 y1' => m = a ∧ x9 = b ∧ z = y0 ∧ y1 = y1' ∧ 1 ≤ i ∧ StrictTo z i) (fun _ _ _ _ _ => res) ?_ k 1 _ _ _ _ (by omega) ⟨rfl, rfl, rfl, rfl, by omega, fun p q h1 h2 => by omega⟩ (by omega)
  rintro i _ _ _ _ rec hi ⟨rfl, rfl, rfl, rfl, hi1, hs⟩ hrec
  unfold impl_potsOf.i12001_s4
  by_cases h : i < z.length
  · have wp : IntKind.wrap .i64 ((i : Int) - 1) = ((i - 1 : Nat) : Int) := wrap_pred (by omega) (by omega)
    have h' : i - 1 < z.length := by omega
    have hle := hu (i - 1) i (by omega) h
    simp only [ltD h, ltD h', nn, cond_true, Bool.and_self, wp, Int.toNat_natCast, decide_eq_true h, decide_eq_true h', wrap_succ (show i < 2^62 by omega), Int.le_refl, decide_true, decide_eq_true (show (i : Int) ≤ (z.length : Int) by omega)]
    by_cases d : z.getD i 0 = z.getD (i - 1) 0
    · have d' : (z.getD i 0 == z.getD (i - 1) 0) = true := by rw [beq_iff_eq]; exact d
      simp only [d', cond_true]
      refine squeeze_eq K hl hu hi1 h hs d res _ (fun c y hc hy hst hm => ?_)
      have hc0 : decide ((c : Int) ≤ (y.length : Int)) = true := by simp; omega
      have e1 : ((y.take c ++ List.replicate (y.length - c) 0) ++ y.drop (c + (y.length - c))) = y.take c ++ List.replicate (y.length - c) 0 := by
        rw [List.drop_eq_nil_of_le (by omega), List.append_nil]
      have e2 : (y.take c ++ List.replicate (y.length - c) 0).length = y.length := by simp; omega
      have e3 : (y.take c ++ List.replicate (y.length - c) (0 : Int)).take c = y.take c := by
        rw [List.take_append_of_le_length (by simp; omega), List.take_take, Nat.min_self]
      simp only [nn, hc0, Int.le_refl, decide_true, Bool.and_self, cond_true, Int.toNat_natCast, e1, e2, Nat.sub_zero]
      exact hr c _ (by rw [e3]; exact hst) (by rw [e3, List.length_take]; omega) (fun x => by rw [e3]; exact hm x)
    · have d' : (z.getD i 0 == z.getD (i - 1) 0) = false := by rw [beq_eq_false_iff_ne]; exact d
      simp only [d', cond_false]
      refine hrec _ _ _ _ h ⟨rfl, rfl, rfl, rfl, by omega, fun p q h1 h2 => ?_⟩
      by_cases cq : q = i
      · subst cq
        by_cases cp : p = q - 1
        · subst cp; omega
        · have := hs p (q - 1) (by omega) (by omega); omega
      · exact hs p q h1 (by omega)
  · have : i = z.length := by omega
    subst this
    have c0 : decide ((z.length : Int) < (z.length : Int)) = false := by simp
    simp only [c0, cond_false]
    exact hk hs

theorem Strict.intro {a : Int} {l : List Int} (h : Strict l) (ha : ∀ x ∈ l, a < x) : Strict (a :: l) := by
  intro p q hpq hq
  obtain ⟨q, rfl⟩ : ∃ q', q = q' + 1 := ⟨q - 1, by omega⟩
  have hq' : q < l.length := by simpa using hq
  cases p with
  | zero =>
    have := ha (l.getD q 0) (mem_getD.2 ⟨q, hq', rfl⟩)
    simpa using this
  | succ p =>
    have := h p q (by omega) hq'
    simpa using this

theorem exStrict : ∀ l : List Int, ∃ L, Strict L ∧ ∀ x, x ∈ L ↔ x ∈ l
  | [] => ⟨[], fun p q _ h => by simp at h, fun _ => Iff.rfl⟩
  | a :: l => by
    obtain ⟨L, hs, hm⟩ := exStrict l
    have ins : ∀ L, Strict L → ∃ M, Strict M ∧ ∀ x, x ∈ M ↔ x = a ∨ x ∈ L := by
      intro L
      induction L with
      | nil => exact fun _ => ⟨[a], Strict.intro (fun p q _ h => by simp at h) (by simp), by simp⟩
      | cons b L ih =>
        intro hb
        have hc := hb.cons
        by_cases c1 : a < b
        · exact ⟨a :: b :: L, Strict.intro hb (fun x hx => by
            rcases List.mem_cons.1 hx with e | e
            · omega
            · have := hc.2 x e; omega), by simp⟩
        · by_cases c2 : a = b
          · refine ⟨b :: L, hb, fun x => ?_⟩
            subst c2; simp
          · obtain ⟨M, h1, h2⟩ := ih hc.1
            refine ⟨b :: M, Strict.intro h1 (fun x hx => ?_), fun x => ?_⟩
            · rcases (h2 x).1 hx with e | e
              · omega
              · exact hc.2 x e
            · simp only [List.mem_cons, h2]
              constructor
              · rintro (e | e | e)
                · exact .inr (.inl e)
                · exact .inl e
                · exact .inr (.inr e)
              · rintro (e | e | e)
                · exact .inr (.inl e)
                · exact .inl e
                · exact .inr (.inr e)
    obtain ⟨M, h1, h2⟩ := ins L hs
    exact ⟨M, h1, fun x => (h2 x).trans (by rw [hm, List.mem_cons])⟩

theorem exLow (L : List Int) (hs : Strict L) (hp : ∀ x ∈ L, 0 < x) : ∀ i, i < L.length → (i : Int) + 1 ≤ L.getD i 0
  | 0, h => by have := hp _ (mem_getD.2 ⟨0, h, rfl⟩); omega
  | i + 1, h => by
    have := exLow L hs hp i (by omega)
    have := hs i (i + 1) (by omega) h
    omega

/-- The levels of payments: what those who have not folded have paid. -/
def Lv (L p : List Int) (m : List Bool) : Prop := Strict L ∧ ∀ x, x ∈ L ↔ ∃ j, j < p.length ∧ m.getD j false = false ∧ 0 < p.getD j 0 ∧ p.getD j 0 = x

theorem Lv.ex (p : List Int) (m : List Bool) : ∃ L, Lv L p m := by
  obtain ⟨L, h1, h2⟩ := exStrict ((List.range p.length).filterMap fun j => if m.getD j false = false ∧ 0 < p.getD j 0 then some (p.getD j 0) else none)
  refine ⟨L, h1, fun x => (h2 x).trans ?_⟩
  simp only [List.mem_filterMap, List.mem_range]
  constructor
  · rintro ⟨j, hj, e⟩
    split at e
    · rename_i c; exact ⟨j, hj, c.1, c.2, by simpa using e⟩
    · simp at e
  · rintro ⟨j, hj, c1, c2, e⟩
    exact ⟨j, hj, by rw [if_pos ⟨c1, c2⟩, e]⟩

theorem Lv.in_ {L p : List Int} {m : List Bool} (h : Lv L p m) (hp : ∀ j, j < p.length → 0 ≤ p.getD j 0 ∧ p.getD j 0 ≤ 600000) : ∀ t, t < L.length → 0 < L.getD t 0 ∧ L.getD t 0 ≤ 600000 := by
  intro t ht
  obtain ⟨j, hj, _, c, e⟩ := (h.2 (L.getD t 0)).1 (mem_getD.2 ⟨t, ht, rfl⟩)
  have := hp j hj
  omega

theorem Lv.len {L p : List Int} {m : List Bool} (h : Lv L p m) (hp : ∀ j, j < p.length → 0 ≤ p.getD j 0 ∧ p.getD j 0 ≤ 600000) : L.length ≤ 600000 := by
  by_cases c : L.length = 0
  · omega
  · have h1 := exLow L h.1 (fun x hx => by obtain ⟨t, ht, rfl⟩ := mem_getD.1 hx; exact (h.in_ hp t ht).1) (L.length - 1) (by omega)
    have h2 := h.in_ hp (L.length - 1) (by omega)
    omega

theorem getD_app1 {l r : List Int} {p : Nat} (h : p < l.length) : (l ++ r).getD p 0 = l.getD p 0 := by
  rw [List.getD_eq_getElem?_getD, List.getD_eq_getElem?_getD, List.getElem?_append_left h]

theorem getD_app2 {l r : List Int} {p : Nat} (h : l.length ≤ p) : (l ++ r).getD p 0 = r.getD (p - l.length) 0 := by
  rw [List.getD_eq_getElem?_getD, List.getD_eq_getElem?_getD, List.getElem?_append_right h]

theorem getD_dr {l : List Int} {a p : Nat} : (l.drop a).getD p 0 = l.getD (a + p) 0 := by
  rw [List.getD_eq_getElem?_getD, List.getD_eq_getElem?_getD, List.getElem?_drop]

theorem sSorted_eq {k : Nat} (K : 2^42 ≤ k) {l L : List Int} (hl : l.length ≤ 2^39) (hn : l.Nodup) (hs : Strict L) (hm : ∀ x, x ∈ L ↔ x ∈ l) : spec_l02Sorted.f k l = some ((L, ()), ()) := by
  unfold spec_l02Sorted.f
  refine spec_l02Sorted.l3_fix (fun v => ∃ (i : Nat) (y : List Int), i ≤ l.length ∧ v = (l, (i : Int), y) ∧ y.length = i ∧ Strict y ∧ ∀ x, x ∈ y ↔ x ∈ l.take i) (fun v => l.length - v.2.1.toNat) (fun _ => some ((L, ()), ())) ?_ k _ ⟨0, [], Nat.zero_le _, rfl, rfl, fun p q _ h => by simp at h, by simp⟩ (by simp only [Int.toNat_zero]; omega)
  rintro _ rec ⟨i, y, hi, rfl, hy, hst, hmem⟩ hrec
  unfold spec_l02Sorted.s3
  by_cases h : i < l.length
  · simp only [ltD h, cond_true]
    have hnot : l.getD i 0 ∉ y := by
      intro hin
      have := (hmem _).1 hin
      rw [getD_lt h] at this
      rw [List.mem_iff_getElem] at this
      obtain ⟨q, hq, e⟩ := this
      rw [List.getElem_take] at e
      have hq' : q < i := by rw [List.length_take] at hq; omega
      exact List.pairwise_iff_getElem.1 hn q i (by omega) h hq' e
    refine spec_l02Sorted.l6_for y.length (fun q a b c => l = a ∧ (i : Int) = b ∧ y = c ∧ ∀ p, p < q → y.getD p 0 ≤ l.getD i 0) (fun _ _ _ _ => some ((L, ()), ())) ?_ k 0 _ _ _ (Nat.zero_le _) ⟨rfl, rfl, rfl, fun p hp => by omega⟩ (by omega)
    rintro q _ _ _ rec' hq ⟨rfl, rfl, rfl, hle⟩ hrec'
    have fin : (q < y.length → l.getD i 0 < y.getD q 0) → rec (l, ((i : Int) + 1), ((([] : List Int) ++ ((y.drop 0).take (q - 0))) ++ [l.getD i 0]) ++ ((y.drop q).take (y.length - q))) = some ((L, ()), ()) := by
      intro hgt
      have e : ((([] : List Int) ++ ((y.drop 0).take (q - 0))) ++ [l.getD i 0]) ++ ((y.drop q).take (y.length - q)) = y.take q ++ (l.getD i 0 :: y.drop q) := by
        rw [List.drop_zero, Nat.sub_zero, List.nil_append, List.append_assoc, List.singleton_append, List.take_of_length_le (l := y.drop q) (by simp)]
      rw [e]
      have e1 : (y.take q).length = q := by rw [List.length_take]; omega
      refine hrec _ ⟨i + 1, _, by omega, rfl, by simp; omega, ?_, fun x => ?_⟩ (by simp only [Int.toNat_natCast]; omega)
      · have g : ∀ p, (y.take q ++ (l.getD i 0 :: y.drop q)).getD p 0 = if p < q then y.getD p 0 else if p = q then l.getD i 0 else y.getD (p - 1) 0 := by
          intro p
          by_cases c1 : p < q
          · rw [if_pos c1, getD_app1 (by omega), getD_take c1]
          · rw [if_neg c1, getD_app2 (by omega), e1]
            by_cases c2 : p = q
            · rw [if_pos c2, c2, Nat.sub_self]; rfl
            · rw [if_neg c2]
              obtain ⟨d, hd⟩ : ∃ d, p - q = d + 1 := ⟨p - q - 1, by omega⟩
              rw [hd, List.getD_cons_succ, getD_dr]
              congr 1
              omega
        intro p r hpr hr
        have hr' : r < y.length + 1 := by
          have hr2 : r < min q y.length + (y.length - q + 1) := by simpa using hr
          omega
        rw [g, g]
        by_cases c1 : r < q
        · rw [if_pos c1, if_pos (by omega)]; exact hst p r hpr (by omega)
        · rw [if_neg c1]
          by_cases c2 : r = q
          · rw [if_pos c2, if_pos (by omega)]
            have h1 := hle p (by omega)
            have h2 : y.getD p 0 ≠ l.getD i 0 := fun e => hnot (e ▸ mem_getD.2 ⟨p, by omega, rfl⟩)
            omega
          · rw [if_neg c2]
            by_cases c3 : p < q
            · rw [if_pos c3]; exact hst p (r - 1) (by omega) (by omega)
            · rw [if_neg c3]
              by_cases c4 : p = q
              · rw [if_pos c4]
                have h1 := hgt (by omega)
                by_cases c5 : r - 1 = q
                · rw [c5]; exact h1
                · have := hst q (r - 1) (by omega) (by omega); omega
              · rw [if_neg c4]; exact hst (p - 1) (r - 1) (by omega) (by omega)
      · rw [← List.take_append_getElem h, List.mem_append, List.mem_append, List.mem_cons, ← hmem, List.mem_singleton, getD_lt h]
        conv => rhs; rw [← List.take_append_drop q y, List.mem_append]
        constructor
        · rintro (e | e | e)
          · exact .inl (.inl e)
          · exact .inr e
          · exact .inl (.inr e)
        · rintro ((e | e) | e)
          · exact .inl e
          · exact .inr (.inr e)
          · exact .inr (.inl e)
    have m1 : decide ((([] : List Int).length + ((y.drop 0).take (q - 0)).length) * 8 ≤ AM.maxBytes) = true := room (by simp; omega) (by omega)
    have m2 : decide (((([] : List Int) ++ (y.drop 0).take (q - 0)).length + [l.getD i 0].length) * 8 ≤ AM.maxBytes) = true := room (by simp; omega) (by omega)
    have m3 : decide ((((([] : List Int) ++ (y.drop 0).take (q - 0)) ++ [l.getD i 0]).length + ((y.drop q).take (y.length - q)).length) * 8 ≤ AM.maxBytes) = true := room (by simp; omega) (by omega)
    have c0 : decide ((q : Int) ≤ (y.length : Int)) = true := by simp; omega
    unfold spec_l02Sorted.s6
    by_cases h' : q < y.length
    · simp only [ltD h', ltD h, nn, Bool.and_self, cond_true, Int.toNat_natCast, decide_eq_true h', wrap_succ (show q < 2^62 by omega)]
      by_cases c : y.getD q 0 ≤ l.getD i 0
      · simp only [decide_eq_true c, cond_true]
        refine hrec' _ _ _ h' ⟨rfl, rfl, rfl, fun p hp => ?_⟩
        by_cases e : p = q
        · subst e; exact c
        · exact hle p (by omega)
      · simp only [decide_eq_false c, cond_false, c0, nn, Int.le_refl, decide_true, Bool.and_self, cond_true, Int.toNat_natCast, ltD h, m1, m2, m3, wrap_succ (show i < 2^62 by omega)]
        exact fin (fun _ => by omega)
    · have h'' : decide ((q : Int) < (y.length : Int)) = false := by simp; omega
      simp only [h'', cond_false, c0, nn, Int.le_refl, decide_true, Bool.and_self, cond_true, Int.toNat_natCast, ltD h, m1, m2, m3, wrap_succ (show i < 2^62 by omega)]
      exact fin (fun e => absurd e h')
  · have : i = l.length := by omega
    subst this
    have c0 : decide ((l.length : Int) < (l.length : Int)) = false := by simp
    simp only [c0, cond_false]
    rw [List.take_length] at hmem
    rw [Strict.uniq hst hs (fun x => (hmem x).trans (hm x).symm)]

theorem sLevels_eq {k : Nat} (K : 2^42 ≤ k) {p L : List Int} {m : List Bool} (hl : p.length ≤ 2^39) (hm : m.length = p.length) (h : Lv L p m) : spec_l12Levels.f k p m = some ((L, ()), ()) := by
  unfold spec_l12Levels.f
  refine spec_l12Levels.l3_for p.length (fun i a b y => p = a ∧ m = b ∧ y.length ≤ i ∧ y.Nodup ∧ ∀ x, x ∈ y ↔ ∃ j, j < i ∧ m.getD j false = false ∧ 0 < p.getD j 0 ∧ p.getD j 0 = x) (fun _ _ _ _ => some ((L, ()), ())) ?_ k 0 _ _ _ (Nat.zero_le _) ⟨rfl, rfl, by simp, by simp, by simp⟩ (by omega)
  rintro i _ _ y rec hi ⟨rfl, rfl, hy, hn, hmem⟩ hrec
  unfold spec_l12Levels.s3
  have ext : ∀ (P : Int → Prop) x, (∃ j, j < i + 1 ∧ m.getD j false = false ∧ 0 < p.getD j 0 ∧ p.getD j 0 = x) ↔ (∃ j, j < i ∧ m.getD j false = false ∧ 0 < p.getD j 0 ∧ p.getD j 0 = x) ∨ (m.getD i false = false ∧ 0 < p.getD i 0 ∧ p.getD i 0 = x) := by
    intro _ x
    constructor
    · rintro ⟨j, hj, e⟩
      by_cases c : j = i
      · subst c; exact .inr e
      · exact .inl ⟨j, by omega, e⟩
    · rintro (⟨j, hj, e⟩ | e)
      · exact ⟨j, by omega, e⟩
      · exact ⟨i, by omega, e⟩
  by_cases h' : i < p.length
  · have hm' : i < m.length := by omega
    have hr : decide ((y.length + 1) * 8 ≤ AM.maxBytes) = true := room (by omega) (by omega)
    simp only [ltD h', ltD hm', nn, Bool.and_self, cond_true, Int.toNat_natCast, wrap_succ (show i < 2^62 by omega), List.length_singleton, hr]
    cases c1 : m.getD i false with
    | true =>
      simp only [Bool.not_true, cond_false]
      exact hrec _ _ _ h' ⟨rfl, rfl, by omega, hn, fun x => (hmem x).trans ⟨fun e => (ext (fun _ => True) x).2 (.inl e), fun e => by
        rcases (ext (fun _ => True) x).1 e with e | e
        · exact e
        · rw [c1] at e; exact absurd e.1 (by simp)⟩⟩
    | false =>
      simp only [Bool.not_false, cond_true]
      by_cases c2 : p.getD i 0 > 0
      · simp only [decide_eq_true c2, cond_true, l01Has_eq K (show y.length ≤ 2^40 by omega), Option.bind_some]
        by_cases c3 : p.getD i 0 ∈ y
        · simp only [decide_eq_true c3, Bool.not_true, cond_false]
          exact hrec _ _ _ h' ⟨rfl, rfl, by omega, hn, fun x => (hmem x).trans ⟨fun e => (ext (fun _ => True) x).2 (.inl e), fun e => by
            rcases (ext (fun _ => True) x).1 e with e | e
            · exact e
            · exact (hmem x).1 (e.2.2 ▸ c3)⟩⟩
        · simp only [decide_eq_false c3, Bool.not_false, cond_true]
          refine hrec _ _ _ h' ⟨rfl, rfl, by simp; omega, ?_, fun x => ?_⟩
          · rw [List.nodup_append]
            refine ⟨hn, by simp, fun a ha b hb => ?_⟩
            rw [List.mem_singleton] at hb
            subst hb
            intro e
            exact c3 (e ▸ ha)
          · rw [List.mem_append, List.mem_singleton, hmem, ext (fun _ => True)]
            constructor
            · rintro (e | e)
              · exact .inl e
              · exact .inr ⟨c1, c2, e.symm⟩
            · rintro (e | e)
              · exact .inl e
              · exact .inr e.2.2.symm
      · simp only [decide_eq_false c2, cond_false]
        exact hrec _ _ _ h' ⟨rfl, rfl, by omega, hn, fun x => (hmem x).trans ⟨fun e => (ext (fun _ => True) x).2 (.inl e), fun e => by
          rcases (ext (fun _ => True) x).1 e with e | e
          · exact e
          · exact absurd e.2.1 c2⟩⟩
  · have : i = p.length := by omega
    subst this
    have c0 : decide ((p.length : Int) < (p.length : Int)) = false := by simp
    simp only [c0, cond_false, sSorted_eq K (show y.length ≤ 2^39 by omega) hn h.1 (fun x => (h.2 x).trans (hmem x).symm), Option.bind_some]

def A (p : List Int) (prev l : Int) (i : Nat) : Int := ((List.range i).map fun j => (if l < p.getD j 0 then l else p.getD j 0) - (if prev < p.getD j 0 then prev else p.getD j 0)).sum

def O (p : List Int) (l : Int) (i : Nat) : Int := ((List.range i).map fun j => p.getD j 0 - (if l < p.getD j 0 then l else p.getD j 0)).sum

def W (p : List Int) (m : List Bool) (l : Int) (i : Nat) : List Int := ((List.range i).filter fun j => !m.getD j false && decide (p.getD j 0 ≥ l)).map fun (j : Nat) => (j : Int)

theorem A_succ (p : List Int) (prev l : Int) (i : Nat) : A p prev l (i + 1) = A p prev l i + ((if l < p.getD i 0 then l else p.getD i 0) - (if prev < p.getD i 0 then prev else p.getD i 0)) := by
  unfold A; rw [List.range_succ, List.map_append, List.sum_append]; simp

theorem O_succ (p : List Int) (l : Int) (i : Nat) : O p l (i + 1) = O p l i + (p.getD i 0 - (if l < p.getD i 0 then l else p.getD i 0)) := by
  unfold O; rw [List.range_succ, List.map_append, List.sum_append]; simp

theorem W_succ (p : List Int) (m : List Bool) (l : Int) (i : Nat) : W p m l (i + 1) = if (!m.getD i false && decide (p.getD i 0 ≥ l)) = true then W p m l i ++ [(i : Int)] else W p m l i := by
  unfold W; rw [List.range_succ, List.filter_append, List.map_append]
  split
  · rename_i c; simp only [List.filter_cons, if_pos c, List.filter_nil, List.map_cons, List.map_nil]
  · rename_i c; simp only [List.filter_cons, if_neg c, List.filter_nil, List.map_nil, List.append_nil]

theorem W_len (p : List Int) (m : List Bool) (l : Int) (i : Nat) : (W p m l i).length ≤ i := by
  unfold W; rw [List.length_map]
  have := List.length_filter_le (fun j => !m.getD j false && decide (p.getD j 0 ≥ l)) (List.range i)
  rw [List.length_range] at this
  exact this

/-- Payments as laid. -/
def Pay (p : List Int) : Prop := ∀ j, j < p.length → 0 ≤ p.getD j 0 ∧ p.getD j 0 ≤ 600000

theorem A_in {p : List Int} (hp : Pay p) {prev l : Int} (h1 : 0 ≤ prev) (h2 : prev ≤ 600000) (h3 : 0 ≤ l) (h4 : l ≤ 600000) : ∀ i, i ≤ p.length → -(600000 * (i : Int)) ≤ A p prev l i ∧ A p prev l i ≤ 600000 * (i : Int)
  | 0, _ => by simp [A]
  | i + 1, h => by
    have := A_in hp h1 h2 h3 h4 i (by omega)
    have := hp i (by omega)
    rw [A_succ]
    split <;> split <;> omega

theorem O_in {p : List Int} (hp : Pay p) {l : Int} (h3 : 0 ≤ l) (h4 : l ≤ 600000) : ∀ i, i ≤ p.length → 0 ≤ O p l i ∧ O p l i ≤ 600000 * (i : Int)
  | 0, _ => by simp [O]
  | i + 1, h => by
    have := O_in hp h3 h4 i (by omega)
    have := hp i (by omega)
    rw [O_succ]
    split <;> omega

def pv (L : List Int) (t : Nat) : Int := if t = 0 then 0 else L.getD (t - 1) 0

def pot (p : List Int) (m : List Bool) (L : List Int) (i t : Nat) : Int × List Int × Unit := (A p (pv L t) (L.getD t 0) p.length + (if t + 1 = L.length then O p (L.getD t 0) i else 0), (W p m (L.getD t 0) p.length, ()))

def potsI (p : List Int) (m : List Bool) (L : List Int) (i T : Nat) : List (Int × List Int × Unit) := (List.range T).map (pot p m L i)

/-- All pots. -/
def potsF (p : List Int) (m : List Bool) (L : List Int) : List (Int × List Int × Unit) := potsI p m L p.length L.length

theorem potsI_len (p : List Int) (m : List Bool) (L : List Int) (i T : Nat) : (potsI p m L i T).length = T := by simp [potsI]

theorem potsI_succ (p : List Int) (m : List Bool) (L : List Int) (i T : Nat) : potsI p m L i (T + 1) = potsI p m L i T ++ [pot p m L i T] := by simp [potsI, List.range_succ]

theorem pv_in {L : List Int} (hL : ∀ t, t < L.length → 0 < L.getD t 0 ∧ L.getD t 0 ≤ 600000) {t : Nat} (h : t ≤ L.length) : 0 ≤ pv L t ∧ pv L t ≤ 600000 := by
  unfold pv
  split
  · omega
  · have := hL (t - 1) (by omega); omega

theorem sPot_eq {R : Type} {k : Nat} (K : 2^42 ≤ k) {p L : List Int} {m : List Bool} (hl : p.length ≤ 6) (hm : m.length = p.length) (hp : Pay p) (hL : ∀ t, t < L.length → 0 < L.getD t 0 ∧ L.getD t 0 ≤ 600000) (hLl : L.length ≤ 600000) {t : Nat} (ht : t < L.length) (y1 : List (Int × List Int × Unit)) (kx2 : List Int × List Bool × Int × List Int × List (Int × List Int × Unit) × Int × List Int → Option R) :
    spec_l12Pots.l10 k k (p, m, pv L t, (t : Int), 0, L, y1, 0, []) kx2 = kx2 (p, m, (t : Int), L, y1, (pot p m L p.length t).1, (pot p m L p.length t).2.1) := by
  have hl1 := hL t ht
  have hpv := pv_in hL (show t ≤ L.length by omega)
  refine spec_l12Pots.l10_for p.length (fun i x0 x1 x7 x8 y0 y1' z y3 => p = x0 ∧ m = x1 ∧ pv L t = x7 ∧ (t : Int) = x8 ∧ L = y0 ∧ y1 = y1' ∧ A p (pv L t) (L.getD t 0) i + (if t + 1 = L.length then O p (L.getD t 0) i else 0) = z ∧ W p m (L.getD t 0) i = y3) (fun _ _ _ _ _ _ _ _ _ => kx2 (p, m, (t : Int), L, y1, (pot p m L p.length t).1, (pot p m L p.length t).2.1)) ?_ k 0 _ _ _ _ _ _ _ _ (Nat.zero_le _) ⟨rfl, rfl, rfl, rfl, rfl, rfl, by simp [A, O], by simp [W]⟩ (by omega)
  rintro i _ _ _ _ _ _ _ _ rec hi ⟨rfl, rfl, rfl, rfl, rfl, rfl, rfl, rfl⟩ hrec
  unfold spec_l12Pots.s10
  by_cases h : i < p.length
  · have hm' : i < m.length := by omega
    have e := hrec _ _ _ _ _ _ _ _ h ⟨rfl, rfl, rfl, rfl, rfl, rfl, rfl, rfl⟩
    rw [A_succ, O_succ, W_succ] at e
    have hA := A_in hp hpv.1 hpv.2 (show 0 ≤ L.getD t 0 by omega) hl1.2 i (by omega)
    have hO := O_in hp (show 0 ≤ L.getD t 0 by omega) hl1.2 i (by omega)
    have hpi := hp i h
    have hW := W_len p m (L.getD t 0) i
    have hr : decide (((W p m (L.getD t 0) i).length + 1) * 8 ≤ AM.maxBytes) = true := room (by omega) (by omega)
    have wl : IntKind.wrap .i64 ((L.length : Int) - 1) = ((L.length - 1 : Nat) : Int) := wrap_pred (by omega) (by omega)
    simp only [ltD h, ltD hm', nn, ltD ht, Bool.and_self, cond_true, Int.toNat_natCast, decide_eq_true ht, wrap_succ (show i < 2^62 by omega), List.length_singleton, hr, wl]
    generalize A p (pv L t) (L.getD t 0) i = a at *
    generalize O p (L.getD t 0) i = o at *
    generalize W p m (L.getD t 0) i = w at *
    have hb1 : 0 ≤ (if L.getD t 0 < p.getD i 0 then L.getD t 0 else p.getD i 0) ∧ (if L.getD t 0 < p.getD i 0 then L.getD t 0 else p.getD i 0) ≤ 600000 := by split <;> omega
    have hb2 : 0 ≤ (if pv L t < p.getD i 0 then pv L t else p.getD i 0) ∧ (if pv L t < p.getD i 0 then pv L t else p.getD i 0) ≤ 600000 := by split <;> omega
    generalize (if L.getD t 0 < p.getD i 0 then L.getD t 0 else p.getD i 0) = b1 at *
    generalize (if pv L t < p.getD i 0 then pv L t else p.getD i 0) = b2 at *
    by_cases c : t + 1 = L.length
    · have c' : ((t : Int) == ((L.length - 1 : Nat) : Int)) = true := by simp; omega
      rw [if_pos c] at e
      have w1 : IntKind.wrap .i64 (a + o + b1) = a + o + b1 := wrap_id (by omega) (by omega)
      have w2 : IntKind.wrap .i64 (a + o + b1 - b2) = a + o + b1 - b2 := wrap_id (by omega) (by omega)
      have w3 : IntKind.wrap .i64 (a + o + b1 - b2 + p.getD i 0) = a + o + b1 - b2 + p.getD i 0 := wrap_id (by omega) (by omega)
      have w4 : IntKind.wrap .i64 (a + o + b1 - b2 + p.getD i 0 - b1) = a + (b1 - b2) + (o + (p.getD i 0 - b1)) := by rw [wrap_id (by omega) (by omega)]; omega
      simp only [c', cond_true, if_pos c, w1, w2, w3, w4]
      cases d1 : m.getD i false with
      | true => simp only [Bool.not_true, cond_false]; rw [d1] at e; exact e
      | false =>
        rw [d1] at e
        simp only [Bool.not_false, cond_true]
        by_cases d2 : p.getD i 0 ≥ L.getD t 0
        · simp only [decide_eq_true d2, cond_true]; rw [decide_eq_true d2] at e; exact e
        · simp only [decide_eq_false d2, cond_false]; rw [decide_eq_false d2] at e; exact e
    · have c' : ((t : Int) == ((L.length - 1 : Nat) : Int)) = false := by simp; omega
      rw [if_neg c] at e
      have w1 : IntKind.wrap .i64 (a + 0 + b1) = a + b1 := by rw [wrap_id (by omega) (by omega)]; omega
      have w2 : IntKind.wrap .i64 (a + b1 - b2) = a + (b1 - b2) + 0 := by rw [wrap_id (by omega) (by omega)]; omega
      simp only [c', cond_false, if_neg c, w1, w2]
      cases d1 : m.getD i false with
      | true => simp only [Bool.not_true, cond_false]; rw [d1] at e; exact e
      | false =>
        rw [d1] at e
        simp only [Bool.not_false, cond_true]
        by_cases d2 : p.getD i 0 ≥ L.getD t 0
        · simp only [decide_eq_true d2, cond_true]; rw [decide_eq_true d2] at e; exact e
        · simp only [decide_eq_false d2, cond_false]; rw [decide_eq_false d2] at e; exact e
  · have : i = p.length := by omega
    subst this
    have c0 : decide ((p.length : Int) < (p.length : Int)) = false := by simp
    simp only [c0, cond_false, pot]

theorem sPots_eq {k : Nat} (K : 2^42 ≤ k) {p L : List Int} {m : List Bool} (hl : p.length ≤ 6) (hm : m.length = p.length) (hp : Pay p) (h : Lv L p m) : spec_l12Pots.f k p m = some ((potsF p m L, ()), ()) := by
  unfold spec_l12Pots.f
  have hL := h.in_ hp
  have hLl := h.len hp
  simp only [sLevels_eq K (show p.length ≤ 2^39 by omega) hm h, Option.bind_some]
  refine spec_l12Pots.l5_fix (fun v => ∃ t : Nat, t ≤ L.length ∧ v = (p, m, pv L t, (t : Int), L, potsI p m L p.length t)) (fun v => L.length - v.2.2.2.1.toNat) (fun _ => some ((potsF p m L, ()), ())) ?_ k _ ⟨0, Nat.zero_le _, rfl⟩ (by simp only [Int.toNat_zero]; omega)
  rintro _ rec ⟨t, ht, rfl⟩ hrec
  unfold spec_l12Pots.s5
  by_cases h' : t < L.length
  · have hr : decide (((potsI p m L p.length t).length + 1) * 32 ≤ AM.maxBytes) = true := room (by rw [potsI_len]; omega) (by omega)
    have e := hrec (p, m, L.getD t 0, ((t : Int) + 1), L, potsI p m L p.length (t + 1)) ⟨t + 1, h', rfl⟩ (by simp only [Int.toNat_natCast]; omega)
    rw [potsI_succ] at e
    simp only [ltD h', cond_true, sPot_eq K hl hm hp hL hLl h', List.length_singleton, hr, nn, Bool.and_self, Int.toNat_natCast, decide_eq_true h', wrap_succ (show t < 2^62 by omega)]
    exact e
  · have : t = L.length := by omega
    subst this
    have c0 : decide ((L.length : Int) < (L.length : Int)) = false := by simp
    simp only [c0, cond_false]
    rfl

/-- Those who have not folded. -/
def lvs (m : List Bool) (i : Nat) : List Int := ((List.range i).filter fun j => !m.getD j false).map fun (j : Nat) => (j : Int)

theorem lvs_succ (m : List Bool) (i : Nat) : lvs m (i + 1) = if m.getD i false = false then lvs m i ++ [(i : Int)] else lvs m i := by
  unfold lvs; rw [List.range_succ, List.filter_append, List.map_append]
  split
  · rename_i c; simp only [List.filter_cons, c, Bool.not_false, if_true, List.filter_nil, List.map_cons, List.map_nil]
  · rename_i c; have c' : m.getD i false = true := by simpa using c
    simp only [List.filter_cons, c', Bool.not_true, Bool.false_eq_true, if_false, List.filter_nil, List.map_nil, List.append_nil]

theorem lvs_len (m : List Bool) (i : Nat) : (lvs m i).length ≤ i := by
  unfold lvs; rw [List.length_map]
  have := List.length_filter_le (fun j => !m.getD j false) (List.range i)
  rw [List.length_range] at this
  exact this

theorem mem_lvs {m : List Bool} {i : Nat} {x : Int} : x ∈ lvs m i ↔ ∃ j : Nat, j < i ∧ m.getD j false = false ∧ (j : Int) = x := by
  unfold lvs
  simp only [List.mem_map, List.mem_filter, List.mem_range, Bool.not_eq_true', and_assoc]

theorem liveSeats_eq {k : Nat} (K : 2^42 ≤ k) {m : List Bool} (hm : m.length ≤ 2^40) : impl_liveSeats.f k m = some ((lvs m m.length, ()), ()) := by
  unfold impl_liveSeats.f
  refine (impl_liveSeats.l3_for m.length (fun i a b y => m = a ∧ (m.length : Int) = b ∧ lvs m i = y) (fun _ _ _ _ => some ((lvs m m.length, ()), ())) ?_ k 0 _ _ _ (Nat.zero_le _) ⟨rfl, rfl, by simp [lvs]⟩ (by omega))
  rintro i _ _ _ rec hi ⟨rfl, rfl, rfl⟩ hrec
  unfold impl_liveSeats.s3
  by_cases h : i < m.length
  · have hl := lvs_len m i
    have hr : decide (((lvs m i).length + 1) * 8 ≤ AM.maxBytes) = true := room (by omega) (by omega)
    have e := hrec _ _ _ h ⟨rfl, rfl, rfl⟩
    rw [lvs_succ] at e
    simp only [ltD h, nn, Bool.and_self, cond_true, Int.toNat_natCast, List.length_singleton, hr, wrap_succ (show i < 2^62 by omega)]
    cases c : m.getD i false with
    | true => rw [c] at e; simp only [Bool.not_true, cond_false]; exact e
    | false => rw [c] at e; simp only [Bool.not_false, cond_true]; exact e
  · have : i = m.length := by omega
    subst this
    have c0 : decide ((m.length : Int) < (m.length : Int)) = false := by simp
    simp only [c0, cond_false]

theorem gather_eq {R : Type} {k : Nat} (K : 2^42 ≤ k) {p L : List Int} {m : List Bool} (hl : p.length ≤ 6) (hm : m.length = p.length) (h : Lv L p m) (res : Option R) (kx0 : List Bool × List Int × List Int → Option R)
    (hk : ∀ z, z.length ≤ 6 → (∀ x, x ∈ z ↔ x ∈ L) → kx0 (m, p, z) = res) : impl_potsOf.l4 k k (m, ((lvs m m.length).length : Int), 0, p, [], lvs m m.length) kx0 = res := by
  have hsl := lvs_len m m.length
  refine impl_potsOf.l4_for (lvs m m.length).length (fun i a b y0 y1 y2 => m = a ∧ ((lvs m m.length).length : Int) = b ∧ p = y0 ∧ lvs m m.length = y2 ∧ y1.length ≤ i ∧ ∀ x, x ∈ y1 ↔ ∃ t, t < i ∧ 0 < p.getD ((lvs m m.length).getD t 0).toNat 0 ∧ p.getD ((lvs m m.length).getD t 0).toNat 0 = x) (fun _ _ _ _ _ _ => res) ?_ k 0 _ _ _ _ _ (Nat.zero_le _) ⟨rfl, rfl, rfl, rfl, by simp, by simp⟩ (by omega)
  rintro i _ _ _ y _ rec hi ⟨rfl, rfl, rfl, rfl, hy, hmem⟩ hrec
  unfold impl_potsOf.s4
  by_cases h' : i < (lvs m m.length).length
  · obtain ⟨j, hj, hjl, hje⟩ := mem_lvs.1 (mem_getD.2 ⟨i, h', rfl⟩ : (lvs m m.length).getD i 0 ∈ lvs m m.length)
    have hjp : j < p.length := by omega
    have hr : decide ((y.length + 1) * 8 ≤ AM.maxBytes) = true := room (by omega) (by omega)
    have hje' := hje.symm
    simp only [ltD h', nn, Bool.and_self, cond_true, Int.toNat_natCast, decide_eq_true h', hje', ltD hjp, decide_eq_true hjp, List.length_singleton, hr, wrap_succ (show i < 2^62 by omega)]
    have ext : ∀ x, (∃ t, t < i + 1 ∧ 0 < p.getD ((lvs m m.length).getD t 0).toNat 0 ∧ p.getD ((lvs m m.length).getD t 0).toNat 0 = x) ↔ (∃ t, t < i ∧ 0 < p.getD ((lvs m m.length).getD t 0).toNat 0 ∧ p.getD ((lvs m m.length).getD t 0).toNat 0 = x) ∨ (0 < p.getD j 0 ∧ p.getD j 0 = x) := by
      intro x
      constructor
      · rintro ⟨t, ht, e⟩
        by_cases c : t = i
        · subst c; rw [hje', Int.toNat_natCast] at e; exact .inr e
        · exact .inl ⟨t, by omega, e⟩
      · rintro (⟨t, ht, e⟩ | e)
        · exact ⟨t, by omega, e⟩
        · exact ⟨i, by omega, by rw [hje', Int.toNat_natCast]; exact e⟩
    by_cases c : p.getD j 0 > 0
    · simp only [decide_eq_true c, cond_true]
      refine hrec _ _ _ _ _ h' ⟨rfl, rfl, rfl, rfl, by simp; omega, fun x => ?_⟩
      rw [List.mem_append, List.mem_singleton, hmem, ext]
      constructor
      · rintro (e | e)
        · exact .inl e
        · exact .inr ⟨c, e.symm⟩
      · rintro (e | e)
        · exact .inl e
        · exact .inr e.2.symm
    · simp only [decide_eq_false c, cond_false]
      refine hrec _ _ _ _ _ h' ⟨rfl, rfl, rfl, rfl, by omega, fun x => ?_⟩
      rw [hmem, ext]
      constructor
      · exact .inl
      · rintro (e | e)
        · exact e
        · exact absurd e.1 c
  · have : i = (lvs m m.length).length := by omega
    subst this
    have c0 : decide (((lvs m m.length).length : Int) < ((lvs m m.length).length : Int)) = false := by simp
    simp only [c0, cond_false]
    refine hk y (by omega) (fun x => ?_)
    rw [hmem, h.2]
    constructor
    · rintro ⟨t, ht, c, e⟩
      obtain ⟨j, hj, hjl, hje⟩ := mem_lvs.1 (mem_getD.2 ⟨t, ht, rfl⟩ : (lvs m m.length).getD t 0 ∈ lvs m m.length)
      rw [← hje, Int.toNat_natCast] at c e
      exact ⟨j, by omega, hjl, c, e⟩
    · rintro ⟨j, hj, hjl, c, e⟩
      obtain ⟨t, ht, he⟩ := mem_getD.1 (mem_lvs.2 ⟨j, by omega, hjl, rfl⟩ : (j : Int) ∈ lvs m m.length)
      exact ⟨t, ht, by rw [he, Int.toNat_natCast]; exact ⟨c, e⟩⟩

theorem iPot_eq {R : Type} {k : Nat} (K : 2^42 ≤ k) {p L : List Int} {m : List Bool} (hl : p.length ≤ 6) (hm : m.length = p.length) (hp : Pay p) {prev l : Int} (h1 : 0 ≤ prev) (h2 : prev ≤ 600000) (h3 : 0 ≤ l) (h4 : l ≤ 600000) (ln t : Int) (y1 : List (Int × List Int × Unit)) (kx4 : List Bool × Int × List Int × Int × Int × List Int × List (Int × List Int × Unit) × List Int × Int → Option R) :
    impl_potsOf.l17 k k (m, prev, l, L, ln, t, (p.length : Int), 0, p, y1, [], 0) kx4 = kx4 (m, l, L, ln, t, p, y1, W p m l p.length, A p prev l p.length) := by
  refine impl_potsOf.l17_for p.length (fun i x1 x9 x11 x42 x43 x44 x49 y0 y1' y2 z => m = x1 ∧ prev = x9 ∧ l = x11 ∧ L = x42 ∧ ln = x43 ∧ t = x44 ∧ (p.length : Int) = x49 ∧ p = y0 ∧ y1 = y1' ∧ W p m l i = y2 ∧ A p prev l i = z) (fun _ _ _ _ _ _ _ _ _ _ _ _ => kx4 (m, l, L, ln, t, p, y1, W p m l p.length, A p prev l p.length)) ?_ k 0 _ _ _ _ _ _ _ _ _ _ _ (Nat.zero_le _) ⟨rfl, rfl, rfl, rfl, rfl, rfl, rfl, rfl, rfl, by simp [W], by simp [A]⟩ (by omega)
  rintro i _ _ _ _ _ _ _ _ _ _ _ rec hi ⟨rfl, rfl, rfl, rfl, rfl, rfl, rfl, rfl, rfl, rfl, rfl⟩ hrec
  unfold impl_potsOf.s17
  by_cases h : i < p.length
  · have hm' : i < m.length := by omega
    have e := hrec _ _ _ _ _ _ _ _ _ _ _ h ⟨rfl, rfl, rfl, rfl, rfl, rfl, rfl, rfl, rfl, rfl, rfl⟩
    rw [A_succ, W_succ] at e
    have hA := A_in hp h1 h2 h3 h4 i (by omega)
    have hpi := hp i h
    have hW := W_len p m l i
    have hr : decide (((W p m l i).length + 1) * 8 ≤ AM.maxBytes) = true := room (by omega) (by omega)
    simp only [ltD h, ltD hm', nn, Bool.and_self, cond_true, Int.toNat_natCast, decide_eq_true h, wrap_succ (show i < 2^62 by omega), List.length_singleton, hr]
    generalize A p prev l i = a at *
    generalize W p m l i = w at *
    have hb1 : 0 ≤ (if l < p.getD i 0 then l else p.getD i 0) ∧ (if l < p.getD i 0 then l else p.getD i 0) ≤ 600000 := by split <;> omega
    have hb2 : 0 ≤ (if prev < p.getD i 0 then prev else p.getD i 0) ∧ (if prev < p.getD i 0 then prev else p.getD i 0) ≤ 600000 := by split <;> omega
    generalize (if l < p.getD i 0 then l else p.getD i 0) = b1 at *
    generalize (if prev < p.getD i 0 then prev else p.getD i 0) = b2 at *
    have w1 : IntKind.wrap .i64 (b1 - b2) = b1 - b2 := wrap_id (by omega) (by omega)
    have w2 : IntKind.wrap .i64 (a + (b1 - b2)) = a + (b1 - b2) := wrap_id (by omega) (by omega)
    simp only [w1, w2]
    cases d1 : m.getD i false with
    | true => simp only [Bool.not_true, cond_false]; rw [d1] at e; exact e
    | false =>
      rw [d1] at e
      simp only [Bool.not_false, cond_true]
      by_cases d2 : p.getD i 0 ≥ l
      · simp only [decide_eq_true d2, cond_true]; rw [decide_eq_true d2] at e; exact e
      · simp only [decide_eq_false d2, cond_false]; rw [decide_eq_false d2] at e; exact e
  · have : i = p.length := by omega
    subst this
    have c0 : decide ((p.length : Int) < (p.length : Int)) = false := by simp
    simp only [c0, cond_false]

theorem pot_zero (p : List Int) (m : List Bool) (L : List Int) (t : Nat) : pot p m L 0 t = (A p (pv L t) (L.getD t 0) p.length, (W p m (L.getD t 0) p.length, ())) := by
  simp [pot, O]

theorem iPots0_eq {R : Type} {k : Nat} (K : 2^42 ≤ k) {p L : List Int} {m : List Bool} (hl : p.length ≤ 6) (hm : m.length = p.length) (hp : Pay p) (h : Lv L p m) (kx2 : Int × List Int × List (Int × List Int × Unit) → Option R) :
    impl_potsOf.l13 k k (m, 0, L, (L.length : Int), 0, p, []) kx2 = kx2 (pv L L.length, p, potsI p m L 0 L.length) := by
  have hL := h.in_ hp
  have hLl := h.len hp
  refine impl_potsOf.l13_fix (fun v => ∃ t : Nat, t ≤ L.length ∧ v = (m, pv L t, L, (L.length : Int), (t : Int), p, potsI p m L 0 t)) (fun v => L.length - v.2.2.2.2.1.toNat) (fun _ => kx2 (pv L L.length, p, potsI p m L 0 L.length)) ?_ k _ ⟨0, Nat.zero_le _, rfl⟩ (by simp only [Int.toNat_zero]; omega)
  rintro _ rec ⟨t, ht, rfl⟩ hrec
  unfold impl_potsOf.s13
  by_cases h' : t < L.length
  · have hr : decide (((potsI p m L 0 t).length + 1) * 32 ≤ AM.maxBytes) = true := room (by rw [potsI_len]; omega) (by omega)
    have e := hrec (m, L.getD t 0, L, (L.length : Int), ((t : Int) + 1), p, potsI p m L 0 (t + 1)) ⟨t + 1, h', rfl⟩ (by simp only [Int.toNat_natCast]; omega)
    rw [potsI_succ, pot_zero] at e
    have hl1 := hL t h'
    have hpv := pv_in hL (show t ≤ L.length by omega)
    simp only [ltD h', cond_true, nn, Bool.and_self, Int.toNat_natCast, iPot_eq K hl hm hp hpv.1 hpv.2 (show 0 ≤ L.getD t 0 by omega) hl1.2, List.length_singleton, hr, wrap_succ (show t < 2^62 by omega)]
    exact e
  · have : t = L.length := by omega
    subst this
    have c0 : decide ((L.length : Int) < (L.length : Int)) = false := by simp
    simp only [c0, cond_false]

theorem potsI_getD {p : List Int} {m : List Bool} {L : List Int} {i T t : Nat} (h : t < T) (d : Int × List Int × Unit) : (potsI p m L i T).getD t d = pot p m L i t := by
  rw [getD_lt (by rw [potsI_len]; exact h)]
  simp [potsI]

theorem iLast_eq {R : Type} {k : Nat} (K : 2^42 ≤ k) {p L : List Int} {m : List Bool} (hl : p.length ≤ 6) (hm : m.length = p.length) (hp : Pay p) (h : Lv L p m) (hT : 0 < L.length) (kx6 : List (Int × List Int × Unit) → Option R) :
    impl_potsOf.l28 k k (pv L L.length, (p.length : Int), 0, potsI p m L 0 L.length, p) kx6 = kx6 (potsF p m L) := by
  have hL := h.in_ hp
  have hLl := h.len hp
  have hlast : pv L L.length = L.getD (L.length - 1) 0 := by unfold pv; rw [if_neg (by omega)]
  have hl1 := hL (L.length - 1) (by omega)
  have hpv := pv_in hL (show L.length - 1 ≤ L.length by omega)
  refine impl_potsOf.l28_for p.length (fun i x9 x93 y0 y1 => pv L L.length = x9 ∧ (p.length : Int) = x93 ∧ potsI p m L i L.length = y0 ∧ p = y1) (fun _ _ _ _ _ => kx6 (potsF p m L)) ?_ k 0 _ _ _ _ (Nat.zero_le _) ⟨rfl, rfl, rfl, rfl⟩ (by omega)
  rintro i _ _ _ _ rec hi ⟨rfl, rfl, rfl, rfl⟩ hrec
  unfold impl_potsOf.s28
  by_cases h' : i < p.length
  · have wl : IntKind.wrap .i64 ((L.length : Int) - 1) = ((L.length - 1 : Nat) : Int) := wrap_pred (by omega) (by omega)
    have hT' : L.length - 1 < L.length := by omega
    have hpi := hp i h'
    have hA := A_in hp hpv.1 hpv.2 (show 0 ≤ L.getD (L.length - 1) 0 by omega) hl1.2 p.length (Nat.le_refl _)
    have hO := O_in hp (show 0 ≤ L.getD (L.length - 1) 0 by omega) hl1.2 i (by omega)
    have e := hrec _ _ _ _ h' ⟨rfl, rfl, rfl, rfl⟩
    have key : ∀ x, x = A p (pv L (L.length - 1)) (L.getD (L.length - 1) 0) p.length + O p (L.getD (L.length - 1) 0) (i + 1) → (potsI p m L i L.length).set (L.length - 1) (x, ((pot p m L i (L.length - 1)).2.1, ())) = potsI p m L (i + 1) L.length := by
      intro x hx
      apply List.ext_getElem
      · rw [List.length_set, potsI_len, potsI_len]
      · intro q h1 h2
        rw [potsI_len] at h2
        rw [List.getElem_set]
        by_cases c : L.length - 1 = q
        · rw [if_pos c]
          subst c
          simp only [potsI, List.getElem_map, List.getElem_range]
          simp only [pot, if_pos (show L.length - 1 + 1 = L.length by omega), hx]
        · rw [if_neg c]
          simp only [potsI, List.getElem_map, List.getElem_range]
          simp only [pot, if_neg (show ¬ q + 1 = L.length by omega)]
    have w1 : IntKind.wrap .i64 (p.getD i 0 - L.getD (L.length - 1) 0) = p.getD i 0 - L.getD (L.length - 1) 0 := wrap_id (by omega) (by omega)
    have hd : (pot p m L i (L.length - 1)).1 = A p (pv L (L.length - 1)) (L.getD (L.length - 1) 0) p.length + O p (L.getD (L.length - 1) 0) i := by simp only [pot, if_pos (show L.length - 1 + 1 = L.length by omega)]
    simp only [ltD h', nn, Bool.and_self, cond_true, Int.toNat_natCast, decide_eq_true h', potsI_len, wl, ltD hT', decide_eq_true hT', potsI_getD hT', hlast, w1, wrap_succ (show i < 2^62 by omega)]
    rw [key]
    · rw [hlast] at e; exact e
    · rw [hd, O_succ]
      by_cases c : L.getD (L.length - 1) 0 < p.getD i 0
      · rw [if_pos c, if_pos (by omega), wrap_id (by omega) (by omega)]; omega
      · rw [if_neg c, if_neg (by omega), wrap_id (by omega) (by omega)]; omega
  · have : i = p.length := by omega
    subst this
    have c0 : decide ((p.length : Int) < (p.length : Int)) = false := by simp
    simp only [c0, cond_false]
    rfl

set_option maxRecDepth 100000 in
theorem bits_Len_ok (k : Nat) {n : Nat} (h : n ≤ 6) : ∃ r, bits_Len.f k (IntKind.wrap .u64 (n : Int)) = some ((r, ()), ()) := by
  have : n = 0 ∨ n = 1 ∨ n = 2 ∨ n = 3 ∨ n = 4 ∨ n = 5 ∨ n = 6 := by omega
  rcases this with rfl | rfl | rfl | rfl | rfl | rfl | rfl <;> exact ⟨_, rfl⟩

theorem iPots_eq {k : Nat} (K : 2^42 ≤ k) {l L : List Int} {m : List Bool} {b : Nat} (hb : IsBest l l.length b) (hl : l.length ≤ 6) (hm : m.length = l.length) (hp : Pay (refL l b)) (h : Lv L (refL l b) m) : impl_potsOf.f k l m = some ((potsF (refL l b) m L, ()), ()) := by
  unfold impl_potsOf.f
  have hrl : (refL l b).length = l.length := by simp [refL]
  simp only [iRefund_eq K (show l.length ≤ 2^40 by omega) hb, liveSeats_eq K (show m.length ≤ 2^40 by omega), Option.bind_some]
  generalize refL l b = p at *
  refine gather_eq K (by omega) (by omega) h _ _ (fun z hz hzm => ?_)
  obtain ⟨r, hr⟩ := bits_Len_ok k hz
  simp only [hr, Option.bind_some]
  refine sort_eq K (by omega) r _ _ (fun y hy hym hyu => ?_)
  have hyL : ∀ x, x ∈ y ↔ x ∈ L := fun x => (hym x).trans (hzm x)
  by_cases c : y.length < 2
  · have c' : decide ((y.length : Int) < 2) = true := by simp; omega
    have hs : Strict y := fun p q h1 h2 => by omega
    have := Strict.uniq hs h.1 hyL
    subst this
    simp only [c', cond_true, iPots0_eq K (show p.length ≤ 6 by omega) (show m.length = p.length by omega) hp h, potsI_len]
    by_cases c2 : 0 < y.length
    · simp only [gt0 c2, cond_true, iLast_eq K (show p.length ≤ 6 by omega) (show m.length = p.length by omega) hp h c2]
    · simp only [not_gt0 c2, cond_false]
      have : y = [] := List.eq_nil_of_length_eq_zero (by omega)
      subst this
      rfl
  · have c' : decide ((y.length : Int) < 2) = false := by simp; omega
    simp only [c', cond_false]
    have fin : ∀ kk : Unit, impl_potsOf.l13 (R := (List (Int × List Int × Unit) × Unit) × Unit) k k (m, 0, L, (L.length : Int), 0, p, []) (fun x => match x with | (o29, o30, o31) => (bif (decide (((o31.length : Nat) : Int) > (0 : Int))) then (impl_potsOf.l28 k k (o29, ((o30.length : Nat) : Int), (0 : Int), o31, o30) (fun o32 => (some ((o32, ()), ())))) else (some ((o31, ()), ())))) = some ((potsF p m L, ()), ()) := by
      intro _
      simp only [iPots0_eq K (show p.length ≤ 6 by omega) (show m.length = p.length by omega) hp h, potsI_len]
      by_cases c2 : 0 < L.length
      · simp only [gt0 c2, cond_true, iLast_eq K (show p.length ≤ 6 by omega) (show m.length = p.length by omega) hp h c2]
      · simp only [not_gt0 c2, cond_false]
        have : L = [] := List.eq_nil_of_length_eq_zero (by omega)
        subst this
        rfl
    refine compact_eq K (by omega) (by omega) hyu _ _ _ (fun hs => ?_) (fun c y' hs hc hcm => ?_)
    · have := Strict.uniq hs h.1 hyL
      subst this
      exact fin ()
    · have := Strict.uniq hs h.1 (fun x => (hcm x).trans (hyL x))
      simp only [List.drop_zero, this]
      rw [this] at hc
      subst hc
      exact fin ()

theorem secGo_in (b : Nat) : ∀ (l : List Int) (i : Nat) (s : Int), (∀ x ∈ l, 0 ≤ x ∧ x ≤ 600000) → 0 ≤ s → s ≤ 600000 → 0 ≤ secGo b i l s ∧ secGo b i l s ≤ 600000
  | [], _, s, _, h0, h1 => ⟨h0, h1⟩
  | x :: r, i, s, h, h0, h1 => by
    have hx := h x (by simp)
    rw [secGo]
    apply secGo_in b r (i + 1) _ (fun y hy => h y (by simp [hy]))
    · split
      · exact h0
      · split <;> omega
    · split
      · exact h1
      · split <;> omega

theorem refL_pay {l : List Int} {b : Nat} (hl : l.all (inB 0 600000) = true) (hb : IsBest l l.length b) : Pay (refL l b) := by
  have hin : ∀ x ∈ l, 0 ≤ x ∧ x ≤ 600000 := all_inB hl
  have hg : ∀ j, j < l.length → 0 ≤ l.getD j 0 ∧ l.getD j 0 ≤ 600000 := fun j hj => hin _ (mem_getD.2 ⟨j, hj, rfl⟩)
  have hs := secGo_in b l 0 0 hin (by omega) (by omega)
  have hbl := hg b hb.1
  intro j hj
  have hj' : j < l.length := by simpa [refL] using hj
  have hgj := hg j hj'
  have h0 := hg 0 (by omega)
  unfold refL uncR
  split
  · rw [Int.toNat_zero, set_getD (by omega), Int.sub_zero, wrap_id (by omega) (by omega)]
    split
    · exact h0
    · exact hgj
  · simp only [Int.toNat_natCast]
    have w1 : IntKind.wrap .i64 (l.getD b 0 - secGo b 0 l 0) = l.getD b 0 - secGo b 0 l 0 := wrap_id (by omega) (by omega)
    rw [set_getD hb.1, w1, wrap_id (by omega) (by omega)]
    split
    · omega
    · exact hgj

/-- The pots of payments, as both have them. -/
theorem pots_both0 {k : Nat} (K : 2^42 ≤ k) {l : List Int} {m : List Bool} (h : pays l m = true) : ∃ (b : Nat) (L : List Int), IsBest l l.length b ∧ Pay (refL l b) ∧ Lv L (refL l b) m ∧ (refL l b).length = l.length ∧ spec_l12Refund.f k l = some ((refL l b, ()), ()) ∧ spec_l12Pots.f k (refL l b) m = some ((potsF (refL l b) m L, ()), ()) ∧ impl_potsOf.f k l m = some ((potsF (refL l b) m L, ()), ()) := by
  obtain ⟨p1, p2, p3, p4⟩ := pays_len h
  obtain ⟨b, hb⟩ := IsBest.ex l l.length (by omega)
  obtain ⟨L, hL⟩ := Lv.ex (refL l b) m
  have hp := refL_pay p3 hb
  have hrl : (refL l b).length = l.length := by simp [refL]
  have e1 := sRefund_eq K (show l.length ≤ 2^40 by omega) hb
  have e2 := sPots_eq K (show (refL l b).length ≤ 6 by omega) (show m.length = (refL l b).length by omega) hp hL
  exact ⟨b, L, hb, hp, hL, hrl, e1, e2, iPots_eq K hb (by omega) (by omega) hp hL⟩

/-- What is in the pots that a seat can win. -/
def shRun (P : List (Int × List Int × Unit)) (x : Int) (i : Nat) : Int := (P.take i).foldl (fun s q => if x ∈ q.2.1 then IntKind.wrap .i64 (s + q.1) else s) 0

theorem shRun_succ {P : List (Int × List Int × Unit)} {x : Int} {i : Nat} (h : i < P.length) : shRun P x (i + 1) = if x ∈ P[i].2.1 then IntKind.wrap .i64 (shRun P x i + P[i].1) else shRun P x i := by
  unfold shRun; rw [← List.take_append_getElem h, List.foldl_append]; rfl

theorem iShare_eq {R : Type} {k : Nat} (K : 2^42 ≤ k) {P : List (Int × List Int × Unit)} (hP : P.length ≤ 2^40) (hw : ∀ q ∈ P, q.2.1.length ≤ 2^40) (x : Int) (kx0 : Int → Option R) : impl_ShareIn.l7 k k (x, 0, (P.length : Int), 0, P) kx0 = kx0 (shRun P x P.length) := by
  refine impl_ShareIn.l7_for P.length (fun i a b n c => x = a ∧ shRun P x i = b ∧ (P.length : Int) = n ∧ P = c) (fun _ _ _ _ _ => kx0 (shRun P x P.length)) ?_ k 0 _ _ _ _ (Nat.zero_le _) ⟨rfl, rfl, rfl, rfl⟩ (by omega)
  rintro i _ _ _ _ rec hi ⟨rfl, rfl, rfl, rfl⟩ hrec
  unfold impl_ShareIn.s7
  by_cases h : i < P.length
  · have e := hrec _ _ _ _ h ⟨rfl, rfl, rfl, rfl⟩
    rw [shRun_succ h] at e
    simp only [ltD h, nn, Bool.and_self, cond_true, Int.toNat_natCast, getD_lt h, decide_eq_true h, contains_eq K (hw _ (List.getElem_mem h)), Option.bind_some, wrap_succ (show i < 2^62 by omega)]
    by_cases c : x ∈ P[i].2.1
    · rw [if_pos c] at e
      simp only [decide_eq_true c, cond_true]; exact e
    · rw [if_neg c] at e
      simp only [decide_eq_false c, cond_false]; exact e
  · have : i = P.length := by omega
    subst this
    have c0 : decide ((P.length : Int) < (P.length : Int)) = false := by simp
    simp only [c0, cond_false]

theorem potsF_sz {p L : List Int} {m : List Bool} (hl : p.length ≤ 6) (hp : Pay p) (h : Lv L p m) : (potsF p m L).length ≤ 2^40 ∧ ∀ q ∈ potsF p m L, q.2.1.length ≤ 2^40 := by
  have := h.len hp
  refine ⟨by unfold potsF; rw [potsI_len]; omega, fun q hq => ?_⟩
  unfold potsF potsI at hq
  obtain ⟨t, _, rfl⟩ := List.mem_map.1 hq
  have := W_len p m (L.getD t 0) p.length
  simp only [pot]
  omega

/-- The pots are as payments make them. -/
def potsC (ps : List (Int × List Int × Unit)) (n : Int) : Bool := ps.all fun p => wins p.2.1 n && inB 0 1073741824 p.1

theorem sAwardC_eq {k : Nat} (K : 2^42 ≤ k) {a : Int} {w v1 v2 : List Int} (hw : wins w v1.length = true) (hl : w.length ≤ 2^40) (ha : inB 0 1073741824 a = true) (h12 : v2.length = v1.length) (hS : 0 < v1.length) (hS' : v1.length ≤ 2^20) {F : Nat} (hF : F < 2^40) :
    spec_l13Award.f k (a, w, ()) v1 v2 (F : Int) = some ((awardL a w v1 v2 v1.length F, ()), ()) := by
  unfold spec_l13Award.f awardL
  have ha' := inB_iff.1 ha
  have hh := half ha'.1
  have hall := wins_all hw
  have hb1 := bestL_len true v1 w
  have hb2 := bestL_len false v2 w
  have w1 : IntKind.wrap .i64 (a.tdiv 2) = a.tdiv 2 := wrap_id (by omega) (by omega)
  have w2 : IntKind.wrap .i64 (a - a.tdiv 2) = a - a.tdiv 2 := wrap_id (by omega) (by omega)
  simp only [sBest_eq K hl hall, sBest_eq K hl (vals := v2) (by rw [h12]; exact hall), Option.bind_some, two0, Bool.not_false, cond_true, w1, w2]
  by_cases c1 : 0 < (bestL true v1 w).length
  · by_cases c2 : 0 < (bestL false v2 w).length
    · simp only [gt0 c1, gt0 c2, cond_true, if_pos c1, if_pos c2, sSplit_eq K (show (bestL true v1 w).length ≤ 2^40 by omega) c1 (show 0 ≤ a - a.tdiv 2 by omega) (show a - a.tdiv 2 ≤ 2^40 by omega) hS hS' hF, sSplit_eq K (show (bestL false v2 w).length ≤ 2^40 by omega) c2 hh.1 (show a.tdiv 2 ≤ 2^40 by omega) hS hS' hF, Option.bind_some, l13Add_eq K (show (splitL (bestL false v2 w) v1.length F (a.tdiv 2)).length = (splitL (bestL true v1 w) v1.length F (a - a.tdiv 2)).length by rw [splitL_len, splitL_len]) (by rw [splitL_len]; omega)]
    · simp only [gt0 c1, not_gt0 c2, cond_true, cond_false, if_pos c1, if_neg c2, sSplit_eq K (show (bestL true v1 w).length ≤ 2^40 by omega) c1 ha'.1 (show a ≤ 2^40 by omega) hS hS' hF, Option.bind_some]
  · by_cases c2 : 0 < (bestL false v2 w).length
    · simp only [not_gt0 c1, gt0 c2, cond_true, cond_false, if_neg c1, if_pos c2, sSplit_eq K (show (bestL false v2 w).length ≤ 2^40 by omega) c2 ha'.1 (show a ≤ 2^40 by omega) hS hS' hF, Option.bind_some]
    · simp only [not_gt0 c1, not_gt0 c2, cond_false, if_neg c1, if_neg c2, sSplit_eq K hl (wins_pos hw) ha'.1 (show a ≤ 2^40 by omega) hS hS' hF, Option.bind_some]

theorem iAwardedC_eq {k : Nat} (K : 2^42 ≤ k) {ps : List (Int × List Int × Unit)} {v1 v2 : List Int} (hps : potsC ps v1.length = true) (hpl : ps.length ≤ 2^40) (hwl : ∀ p ∈ ps, p.2.1.length ≤ 2^40) (h12 : v2.length = v1.length) (hS : 0 < v1.length) (hS' : v1.length ≤ 2^20) {F : Nat} (hF : F < 2^40) :
    impl_awarded.f k ps v1 v2 (F : Int) = some ((awRun ps v1 v2 v1.length F ps.length, ()), ()) := by
  unfold impl_awarded.f
  have hm : decide ((v1.length : Int) * ((8 : Nat) : Int) ≤ (AM.maxBytes : Int)) = true := by unfold AM.maxBytes; simp; omega
  simp only [nn, Int.le_refl, decide_true, hm, Bool.and_self, cond_true, Int.toNat_natCast]
  refine impl_awarded.l5_fix (fun v => ∃ i, i ≤ ps.length ∧ v = (v1, v2, ps, (ps.length : Int), (i : Int), awRun ps v1 v2 v1.length F i, (v1.length : Int), (F : Int))) (fun v => ps.length - v.2.2.2.2.1.toNat) (fun _ => some ((awRun ps v1 v2 v1.length F ps.length, ()), ())) ?_ k _ ⟨0, Nat.zero_le _, rfl⟩ (by simp; omega)
  rintro _ rec ⟨i, hi, rfl⟩ hrec
  unfold impl_awarded.s5
  by_cases h : i < ps.length
  · have e := hrec (v1, v2, ps, (ps.length : Int), ((i : Int) + 1), awRun ps v1 v2 v1.length F (i + 1), (v1.length : Int), (F : Int)) ⟨i + 1, h, rfl⟩ (by simp only [Int.toNat_natCast]; omega)
    rw [awRun_succ h] at e
    have hy := awRun_len ps v1 v2 v1.length F i
    have hp := List.all_eq_true.1 hps ps[i] (List.getElem_mem h)
    have hwl' := hwl ps[i] (List.getElem_mem h)
    simp only [nn, ltD h, Bool.and_self, Int.toNat_natCast, getD_lt h, wrap_succ (show i < 2^62 by omega), cond_true, Bool.and_eq_true] at hp ⊢
    generalize awRun ps v1 v2 v1.length F i = y at *
    obtain ⟨⟨a, w, u⟩, hpe⟩ : ∃ p, ps[i] = p := ⟨_, rfl⟩
    simp only [hpe] at e hp hwl' ⊢
    have ha' := inB_iff.1 hp.2
    have hh := half ha'.1
    have hall := wins_all hp.1
    have hb1 := bestL_len true v1 w
    have hb2 := bestL_len false v2 w
    have w1 : IntKind.wrap .i64 (a.tdiv 2) = a.tdiv 2 := wrap_id (by omega) (by omega)
    have w2 : IntKind.wrap .i64 (a - a.tdiv 2) = a - a.tdiv 2 := wrap_id (by omega) (by omega)
    have hyl : y.length ≤ 2^40 := by omega
    simp only [iHigh_eq K hwl' hall, iLow_eq K hwl' (vals := v2) (by rw [h12]; exact hall), Option.bind_some, two0, Bool.not_false, cond_true, w1, w2]
    unfold awStep awardL at e
    by_cases c1 : 0 < (bestL true v1 w).length
    · by_cases c2 : 0 < (bestL false v2 w).length
      · rw [if_pos ⟨c1, c2⟩] at e
        simp only [gt0 c1, gt0 c2, cond_true, iSplit_eq K (show (bestL false v2 w).length ≤ 2^40 by omega) c2 hh.1 (show a.tdiv 2 ≤ 2^40 by omega) hS hS' hF, Option.bind_some, i10005_eq K (show (splitL (bestL false v2 w) v1.length F (a.tdiv 2)).length = y.length by rw [splitL_len]; omega) hyl]
        simp only [w1, w2, iSplit_eq K (show (bestL true v1 w).length ≤ 2^40 by omega) c1 (show 0 ≤ a - a.tdiv 2 by omega) (show a - a.tdiv 2 ≤ 2^40 by omega) hS hS' hF, Option.bind_some]
        rw [i11008_eq K (by rw [splitL_len, addL_len (by rw [splitL_len]; omega)]; omega) (by rw [addL_len (by rw [splitL_len]; omega)]; omega)]
        simp only [wrap_succ (show i < 2^62 by omega), e]
      · rw [if_neg (fun h => c2 h.2), if_pos c1, if_neg c2] at e
        simp only [gt0 c1, not_gt0 c2, cond_true, cond_false, iSplit_eq K (show (bestL true v1 w).length ≤ 2^40 by omega) c1 ha'.1 (show a ≤ 2^40 by omega) hS hS' hF, Option.bind_some, i13004_eq K (show (splitL (bestL true v1 w) v1.length F a).length = y.length by rw [splitL_len]; omega) hyl, wrap_succ (show i < 2^62 by omega), e]
    · rw [if_neg (fun h => c1 h.1), if_neg c1] at e
      by_cases c2 : 0 < (bestL false v2 w).length
      · rw [if_pos c2] at e
        simp only [not_gt0 c1, gt0 c2, cond_true, cond_false, iSplit_eq K (show (bestL false v2 w).length ≤ 2^40 by omega) c2 ha'.1 (show a ≤ 2^40 by omega) hS hS' hF, Option.bind_some, i15004_eq K (show (splitL (bestL false v2 w) v1.length F a).length = y.length by rw [splitL_len]; omega) hyl, wrap_succ (show i < 2^62 by omega), e]
      · rw [if_neg c2] at e
        simp only [not_gt0 c1, not_gt0 c2, cond_false, iSplit_eq K hwl' (wins_pos hp.1) ha'.1 (show a ≤ 2^40 by omega) hS hS' hF, Option.bind_some, i8005_eq K (show (splitL w v1.length F a).length = y.length by rw [splitL_len]; omega) hyl, wrap_succ (show i < 2^62 by omega), e]
  · have : i = ps.length := by omega
    subst this
    have hlt : decide ((ps.length : Int) < (ps.length : Int)) = false := by simp
    simp only [hlt, cond_false]

theorem wrap_ex (x : Int) : ∃ q, IntKind.wrap .i64 x = x + 18446744073709551616 * q := by
  unfold IntKind.wrap
  simp only [IntKind.signed, IntKind.bits, Bool.true_and]
  split
  · exact ⟨-(x / 18446744073709551616) - 1, by omega⟩
  · exact ⟨-(x / 18446744073709551616), by omega⟩

theorem wrap_mod (x q : Int) : IntKind.wrap .i64 (x + 18446744073709551616 * q) = IntKind.wrap .i64 x := by
  unfold IntKind.wrap
  have e : (x + 18446744073709551616 * q) % 2 ^ IntKind.i64.bits = x % 2 ^ IntKind.i64.bits := by
    show (x + 18446744073709551616 * q) % 18446744073709551616 = x % 18446744073709551616
    omega
  rw [e]

theorem wrap_assoc (a b c : Int) : IntKind.wrap .i64 (IntKind.wrap .i64 (a + b) + c) = IntKind.wrap .i64 (a + IntKind.wrap .i64 (c + b)) := by
  obtain ⟨q, hq⟩ := wrap_ex (a + b)
  obtain ⟨r, hr⟩ := wrap_ex (c + b)
  rw [hq, hr, show a + b + 18446744073709551616 * q + c = (a + b + c) + 18446744073709551616 * q by omega, show a + (c + b + 18446744073709551616 * r) = (a + b + c) + 18446744073709551616 * r by omega, wrap_mod, wrap_mod]

theorem awStep_eq {v1 v2 : List Int} {S F : Nat} {y : List Int} (h : y.length = S) (p : Int × List Int × Unit) : awStep v1 v2 S F y p = addL y (awardL p.1 p.2.1 v1 v2 S F) := by
  unfold awStep
  split
  · rename_i c
    unfold awardL
    rw [if_pos c.1, if_pos c.2]
    have h1 := splitL_len (bestL false v2 p.2.1) S F (p.1.tdiv 2)
    have h2 := splitL_len (bestL true v1 p.2.1) S F (p.1 - p.1.tdiv 2)
    generalize splitL (bestL false v2 p.2.1) S F (p.1.tdiv 2) = lo at *
    generalize splitL (bestL true v1 p.2.1) S F (p.1 - p.1.tdiv 2) = hi at *
    apply List.ext_getElem
    · simp [addL]; omega
    · intro i g1 g2
      simp only [addL, List.getElem_zipWith]
      exact wrap_assoc _ _ _
  · rfl

theorem sAll_eq {k : Nat} (K : 2^42 ≤ k) {ps : List (Int × List Int × Unit)} {v1 v2 : List Int} (hps : potsC ps v1.length = true) (hpl : ps.length ≤ 2^40) (hwl : ∀ p ∈ ps, p.2.1.length ≤ 2^40) (h12 : v2.length = v1.length) (hS : 0 < v1.length) (hS' : v1.length ≤ 2^20) {F : Nat} (hF : F < 2^40) :
    spec_l13All.f k ps v1 v2 (F : Int) = some ((awRun ps v1 v2 v1.length F ps.length, ()), ()) := by
  unfold spec_l13All.f
  have hm : decide ((v1.length : Int) * ((8 : Nat) : Int) ≤ (AM.maxBytes : Int)) = true := by unfold AM.maxBytes; simp; omega
  simp only [nn, Int.le_refl, decide_true, hm, Bool.and_self, cond_true, Int.toNat_natCast]
  refine spec_l13All.l3_for ps.length (fun i a b c d y => ps = a ∧ v1 = b ∧ v2 = c ∧ (F : Int) = d ∧ awRun ps v1 v2 v1.length F i = y) (fun _ _ _ _ _ _ => some ((awRun ps v1 v2 v1.length F ps.length, ()), ())) ?_ k 0 _ _ _ _ _ (Nat.zero_le _) ⟨rfl, rfl, rfl, rfl, rfl⟩ (by omega)
  rintro i _ _ _ _ _ rec hi ⟨rfl, rfl, rfl, rfl, rfl⟩ hrec
  unfold spec_l13All.s3
  by_cases h : i < ps.length
  · have e := hrec _ _ _ _ _ h ⟨rfl, rfl, rfl, rfl, rfl⟩
    rw [awRun_succ h, awStep_eq (awRun_len _ _ _ _ _ _)] at e
    have hp := List.all_eq_true.1 hps ps[i] (List.getElem_mem h)
    simp only [Bool.and_eq_true] at hp
    have hwl' := hwl ps[i] (List.getElem_mem h)
    have hy := awRun_len ps v1 v2 v1.length F i
    simp only [ltD h, nn, Bool.and_self, cond_true, Int.toNat_natCast, getD_lt h, sAwardC_eq K hp.1 hwl' hp.2 h12 hS hS' hF, Option.bind_some, l13Add_eq K (show (awardL ps[i].1 ps[i].2.1 v1 v2 v1.length F).length = (awRun ps v1 v2 v1.length F i).length by rw [awardL_len, hy]) (by omega), wrap_succ (show i < 2^62 by omega)]
    exact e
  · have : i = ps.length := by omega
    subst this
    have c0 : decide ((ps.length : Int) < (ps.length : Int)) = false := by simp
    simp only [c0, cond_false]

theorem rises_of {w : List Int} (h : Strict w) : risesB w = true := by
  have key : ∀ d, d ≤ w.length → risesB (w.drop (w.length - d)) = true := by
    intro d
    induction d with
    | zero => intro _; exact rises_last (by omega)
    | succ d ih =>
      intro hd
      by_cases c : d = 0
      · subst c; exact rises_last (by omega)
      · have e : w.length - (d + 1) + 1 = w.length - d := by omega
        rw [rises_drop (by omega)]
        have h1 := h (w.length - (d + 1)) (w.length - (d + 1) + 1) (by omega) (by omega)
        rw [getD_lt (by omega), getD_lt (by omega)] at h1
        rw [decide_eq_true h1, Bool.true_and, e]
        exact ih (by omega)
  have := key w.length (Nat.le_refl _)
  rwa [Nat.sub_self, List.drop_zero] at this

theorem W_strict (p : List Int) (m : List Bool) (l : Int) (n : Nat) : Strict (W p m l n) := by
  have hp : (W p m l n).Pairwise (· < ·) := by
    unfold W
    rw [List.pairwise_map]
    refine (List.Pairwise.filter _ List.pairwise_lt_range).imp ?_
    intro a b h
    omega
  intro a b hab hb
  rw [getD_lt (by omega), getD_lt hb]
  exact List.pairwise_iff_getElem.1 hp a b (by omega) hb hab

theorem mem_W {p : List Int} {m : List Bool} {l : Int} {n : Nat} {x : Int} : x ∈ W p m l n ↔ ∃ j : Nat, j < n ∧ (m.getD j false = false ∧ p.getD j 0 ≥ l) ∧ (j : Int) = x := by
  unfold W
  simp only [List.mem_map, List.mem_filter, List.mem_range, Bool.and_eq_true, Bool.not_eq_true', decide_eq_true_eq, and_assoc]

theorem A_nonneg (p : List Int) {prev l : Int} (h : prev ≤ l) : ∀ i, 0 ≤ A p prev l i
  | 0 => by simp [A]
  | i + 1 => by
    have := A_nonneg p h i
    rw [A_succ]
    split <;> split <;> omega

theorem pv_le {L : List Int} (hs : Strict L) (hL : ∀ t, t < L.length → 0 < L.getD t 0 ∧ L.getD t 0 ≤ 600000) {t : Nat} (ht : t < L.length) : pv L t ≤ L.getD t 0 := by
  unfold pv
  split
  · have := hL t ht; omega
  · have := hs (t - 1) t (by omega) ht; omega

theorem potsF_C {p L : List Int} {m : List Bool} (hl : p.length ≤ 6) (hp : Pay p) (h : Lv L p m) : potsC (potsF p m L) p.length = true := by
  have hL := h.in_ hp
  unfold potsC
  rw [List.all_eq_true]
  intro q hq
  unfold potsF potsI at hq
  obtain ⟨t, ht, rfl⟩ := List.mem_map.1 hq
  rw [List.mem_range] at ht
  have hl1 := hL t ht
  have hpv := pv_in hL (show t ≤ L.length by omega)
  have hA := A_in hp hpv.1 hpv.2 (show 0 ≤ L.getD t 0 by omega) hl1.2 p.length (Nat.le_refl _)
  have hA0 := A_nonneg p (pv_le h.1 hL ht) p.length
  have hO := O_in hp (show 0 ≤ L.getD t 0 by omega) hl1.2 p.length (Nat.le_refl _)
  simp only [pot, wins, Bool.and_eq_true]
  refine ⟨⟨?_, ?_, rises_of (W_strict _ _ _ _)⟩, ?_⟩
  · obtain ⟨j, hj, c1, c2, e⟩ := (h.2 (L.getD t 0)).1 (mem_getD.2 ⟨t, ht, rfl⟩)
    have : (j : Int) ∈ W p m (L.getD t 0) p.length := mem_W.2 ⟨j, hj, ⟨c1, by omega⟩, rfl⟩
    exact decide_eq_true (List.length_pos_of_mem this)
  · rw [List.all_eq_true]
    intro x hx
    obtain ⟨j, hj, _, rfl⟩ := mem_W.1 hx
    exact inB_iff.2 ⟨by omega, by omega⟩
  · refine inB_iff.2 ?_
    split <;> omega

/-- A source of numbers. -/
def Src (z : List Int) (a b : Int) : Prop := (∀ i, i < z.length → 0 ≤ z.getD i 0 ∧ z.getD i 0 < 256) ∧ z.length ≤ 2^40 ∧ 0 ≤ a ∧ a ≤ z.length ∧ 0 ≤ b ∧ b < 2147483647

theorem tmod_in {x n : Int} (hx : 0 ≤ x) (hn : 0 < n) : 0 ≤ Int.tmod x n ∧ Int.tmod x n < n := ⟨Int.tmod_nonneg _ hx, Int.tmod_lt_of_pos _ hn⟩

theorem next_ok {k : Nat} {z : List Int} {a b : Int} (hs : Src z a b) {n : Int} (hn : n ≤ 2^31) : ∃ r c d, spec_l01Next.f k (z, (a, (b, ()))) n = some ((r, ()), ((z, (c, (d, ()))), ())) ∧ 0 ≤ r ∧ (r < n ∨ r = 0) ∧ Src z c d := by
  obtain ⟨h1, h2, h3, h4, h5, h6⟩ := hs
  unfold spec_l01Next.f
  by_cases c1 : n ≤ 1
  · simp only [decide_eq_true c1, cond_true]
    exact ⟨0, a, b, rfl, by omega, .inr rfl, h1, h2, h3, h4, h5, h6⟩
  have d1 : decide ((2147483647 : Int) = 0) = false := by decide
  have d2 : decide ((31 : Int) = 0) = false := by decide
  have d3 : decide (n = 0) = false := decide_eq_false (by omega)
  have w1 : IntKind.wrap .i64 (b * 48271) = b * 48271 := wrap_id (by omega) (by omega)
  have w2 : IntKind.wrap .i64 (b * 48271 + 29) = b * 48271 + 29 := wrap_id (by omega) (by omega)
  have hb := tmod_in (x := b * 48271 + 29) (n := 2147483647) (by omega) (by omega)
  generalize hb' : Int.tmod (b * 48271 + 29) 2147483647 = b' at *
  have hq : 0 ≤ b'.tdiv 31 ∧ b'.tdiv 31 ≤ b' := ⟨Int.tdiv_nonneg hb.1 (by omega), Int.tdiv_le_self _ hb.1⟩
  have w3 : IntKind.wrap .i64 (b'.tdiv 31) = b'.tdiv 31 := wrap_id (by omega) (by omega)
  simp only [decide_eq_false c1, cond_false, d1, d2, d3, two0, Bool.not_false, cond_true, w1, w2, hb', w3]
  by_cases c2 : a < (z.length : Int)
  · obtain ⟨i, rfl⟩ := Int.eq_ofNat_of_zero_le h3
    have hi : i < z.length := by omega
    have hz := h1 i hi
    have w4 : IntKind.wrap .i64 ((i : Int) + 1 - 1) = (i : Int) := by rw [wrap_id (by omega) (by omega)]; omega
    have w5 : IntKind.wrap .i64 (z.getD i 0) = z.getD i 0 := wrap_id (by omega) (by omega)
    have w6 : IntKind.wrap .i64 (b'.tdiv 31 + z.getD i 0) = b'.tdiv 31 + z.getD i 0 := wrap_id (by omega) (by omega)
    have t1 := tmod_in (x := z.getD i 0) (n := n) hz.1 (by omega)
    have t2 := tmod_in (x := b'.tdiv 31 + z.getD i 0) (n := n) (by omega) (by omega)
    have hsrc : Src z ((i : Int) + 1) b' := ⟨h1, h2, by omega, by omega, hb.1, hb.2⟩
    simp only [decide_eq_true c2, nn, Bool.and_self, cond_true, Int.toNat_natCast, wrap_succ (show i < 2^62 by omega), w4, w5, w6]
    cases decide (n ≤ 256) with
    | false => exact ⟨_, _, _, rfl, t2.1, .inl t2.2, hsrc⟩
    | true =>
      simp only [cond_true]
      cases (Int.tmod ((i : Int) + 1) 2 == 0) with
      | false => exact ⟨_, _, _, rfl, t2.1, .inl t2.2, hsrc⟩
      | true => exact ⟨_, _, _, rfl, t1.1, .inl t1.2, hsrc⟩
  · have t := tmod_in (x := b'.tdiv 31) (n := n) hq.1 (by omega)
    simp only [decide_eq_false c2, cond_false]
    exact ⟨_, _, _, rfl, t.1, .inl t.2, h1, h2, h3, h4, hb.1, hb.2⟩

theorem pick_ok {k : Nat} {z : List Int} {a b : Int} (hs : Src z a b) {l : List Int} (h0 : 0 < l.length) (hl : l.length ≤ 2^20) : ∃ r c d, spec_l01Pick.f k (z, (a, (b, ()))) l = some ((r, ()), ((z, (c, (d, ()))), ())) ∧ r ∈ l ∧ Src z c d := by
  unfold spec_l01Pick.f
  obtain ⟨r, c, d, e, h1, h2, h3⟩ := next_ok (k := k) hs (n := (l.length : Int)) (by omega)
  obtain ⟨i, rfl⟩ := Int.eq_ofNat_of_zero_le h1
  have hi : i < l.length := by omega
  simp only [e, Option.bind_some, nn, ltD hi, Bool.and_self, cond_true, Int.toNat_natCast]
  exact ⟨_, c, d, rfl, mem_getD.2 ⟨i, hi, rfl⟩, h3⟩

theorem room1 {n : Nat} (h : n ≤ 2^40) : decide (n * 1 ≤ AM.maxBytes) = true := room h (by omega)

theorem loop_exk {V R W : Type} {L : Nat → V → (W → Option R) → Option R} {S : (V → Option R) → (W → Option R) → V → Option R} (hL : ∀ n v kx, L (n + 1) v kx = S (fun w => L n w kx) kx v) (Inv : V → Prop) (μ : V → Nat) (Q : W → Prop)
    (h : ∀ v, Inv v → (∃ w, (∀ rec kx, S rec kx v = kx w) ∧ Q w) ∨ ∃ v', Inv v' ∧ μ v' < μ v ∧ ∀ rec kx, S rec kx v = rec v') : ∀ n v, Inv v → μ v < n → ∃ w, (∀ kx, L n v kx = kx w) ∧ Q w := by
  intro n
  induction n with
  | zero => intro v _ h; omega
  | succ n ih =>
    intro v hv hn
    rcases h v hv with ⟨w, e, q⟩ | ⟨v', i', m', e⟩
    · exact ⟨w, fun kx => by rw [hL, e], q⟩
    · obtain ⟨w, e', q⟩ := ih v' i' (by omega)
      exact ⟨w, fun kx => by rw [hL, e, e'], q⟩

theorem draw4_ok {R : Type} {k : Nat} (K : 2^42 ≤ k) {z : List Int} {a b : Int} (hs : Src z a b) {S : Nat} (hS : S ≤ 10) : ∃ w, (∀ kx, spec_l12Draw.l4 (R := R) k k ((S : Int), (0 : Int), z, a, b, ([] : List Int), ([] : List Bool)) kx = kx w) ∧ (w.1 = z ∧ w.2.2.2.1.length = S ∧ w.2.2.2.2.length = S ∧ Src z w.2.1 w.2.2.1) := by
  refine loop_exk (L := fun n v kx => spec_l12Draw.l4 (R := R) k n v kx) (S := fun rec kx v => spec_l12Draw.s4 k rec kx v) (fun _ _ _ => rfl) (fun v => ∃ (i : Nat) (a b : Int) (y1 : List Int) (y2 : List Bool), i ≤ S ∧ v = ((S : Int), (i : Int), z, a, b, y1, y2) ∧ y1.length = i ∧ y2.length = i ∧ Src z a b) (fun v => S - v.2.1.toNat) (fun w => w.1 = z ∧ w.2.2.2.1.length = S ∧ w.2.2.2.2.length = S ∧ Src z w.2.1 w.2.2.1) ?_ k _ ⟨0, a, b, [], [], Nat.zero_le _, rfl, rfl, rfl, hs⟩ (by simp only [Int.toNat_zero]; omega)
  rintro _ ⟨i, a, b, y1, y2, hi, rfl, h1, h2, hs⟩
  unfold spec_l12Draw.s4
  by_cases h : i < S
  · right
    obtain ⟨r, c, d, e1, _, _, s1⟩ := next_ok (k := k) hs (n := 60) (by omega)
    obtain ⟨r2, c2, d2, e2, _, s2⟩ := pick_ok (k := k) s1 (l := [0, 1, 5, 10, 10, 20, r]) (by simp) (by simp)
    obtain ⟨r3, c3, d3, e3, _, _, s3⟩ := next_ok (k := k) s2 (n := 3) (by omega)
    have m1 : decide ((y1.length + [r2].length) * 8 ≤ AM.maxBytes) = true := room (by simp; omega) (by omega)
    have m2 : decide ((y2.length + [(r3 == 0)].length) * 1 ≤ AM.maxBytes) = true := room1 (by simp; omega)
    refine ⟨((S : Int), ((i : Int) + 1), z, c3, d3, y1 ++ [r2], y2 ++ [(r3 == 0)]), ⟨i + 1, c3, d3, _, _, h, rfl, by simp [h1], by simp [h2], s3⟩, by simp only [Int.toNat_natCast]; omega, fun rec kx => ?_⟩
    simp only [ltD h, cond_true, e1, e2, e3, m1, m2, Option.bind_some, wrap_succ (show i < 2^62 by omega)]
  · left
    have : i = S := by omega
    subst this
    have c0 : decide ((i : Int) < (i : Int)) = false := by simp
    exact ⟨(z, a, b, y1, y2), fun rec kx => by simp only [c0, cond_false], rfl, h1, h2, hs⟩

theorem draw15_ok {R : Type} {k : Nat} (K : 2^42 ≤ k) (z : List Int) (a b : Int) (y1 : List Int) (y2 : List Bool) (h2 : y2.length ≤ 10) : ∃ w, (∀ kx, spec_l12Draw.l15 (R := R) k k ((0 : Int), z, a, b, y1, y2) kx = kx w) ∧ ∃ y, w = (z, a, b, y1, y) ∧ y.length = y2.length := by
  refine loop_exk (L := fun n v kx => spec_l12Draw.l15 (R := R) k n v kx) (S := fun rec kx v => spec_l12Draw.s15 k rec kx v) (fun _ _ _ => rfl) (fun v => ∃ (i : Nat) (y : List Bool), i ≤ y2.length ∧ v = ((i : Int), z, a, b, y1, y) ∧ y.length = y2.length) (fun v => y2.length - v.1.toNat) (fun w => ∃ y, w = (z, a, b, y1, y) ∧ y.length = y2.length) ?_ k _ ⟨0, y2, Nat.zero_le _, rfl, rfl⟩ (by simp only [Int.toNat_zero]; omega)
  rintro _ ⟨i, y, hi, rfl, hy⟩
  unfold spec_l12Draw.s15
  by_cases h : i < y.length
  · right
    refine ⟨(((i : Int) + 1), z, a, b, y1, y.set i true), ⟨i + 1, _, by omega, rfl, by simpa using hy⟩, by simp only [Int.toNat_natCast]; omega, fun rec kx => ?_⟩
    simp only [ltD h, nn, Bool.and_self, decide_eq_true h, cond_true, Int.toNat_natCast, wrap_succ (show i < 2^62 by omega)]
  · left
    have c0 : decide ((i : Int) < (y.length : Int)) = false := by simp; omega
    exact ⟨(z, a, b, y1, y), fun rec kx => by simp only [c0, cond_false], y, rfl, hy⟩

theorem draw22_ok {R : Type} {k : Nat} (K : 2^42 ≤ k) (z : List Int) (a b : Int) (y1 : List Int) (y2 : List Bool) (h2 : y2.length ≤ 10) : ∃ w, (∀ kx, spec_l12Draw.l22 (R := R) k k ((1 : Int), z, a, b, y1, y2) kx = kx w) ∧ ∃ y, w = (z, a, b, y1, y) ∧ y.length = y2.length := by
  refine loop_exk (L := fun n v kx => spec_l12Draw.l22 (R := R) k n v kx) (S := fun rec kx v => spec_l12Draw.s22 k rec kx v) (fun _ _ _ => rfl) (fun v => ∃ (i : Nat) (y : List Bool), v = ((i : Int), z, a, b, y1, y) ∧ y.length = y2.length) (fun v => y2.length - v.1.toNat) (fun w => ∃ y, w = (z, a, b, y1, y) ∧ y.length = y2.length) ?_ k _ ⟨1, y2, rfl, rfl⟩ (by omega)
  rintro _ ⟨i, y, rfl, hy⟩
  unfold spec_l12Draw.s22
  by_cases h : i < y.length
  · right
    refine ⟨(((i : Int) + 1), z, a, b, y1, y.set i true), ⟨i + 1, _, rfl, by simpa using hy⟩, by simp only [Int.toNat_natCast]; omega, fun rec kx => ?_⟩
    simp only [ltD h, nn, Bool.and_self, decide_eq_true h, cond_true, Int.toNat_natCast, wrap_succ (show i < 2^62 by omega)]
  · left
    have c0 : decide ((i : Int) < (y.length : Int)) = false := by simp; omega
    exact ⟨(z, a, b, y1, y), fun rec kx => by simp only [c0, cond_false], y, rfl, hy⟩

theorem l12Draw_ok {k : Nat} (K : 2^42 ≤ k) {z : List Int} {a b : Int} (hs : Src z a b) : ∃ (p : List Int) (m : List Bool) (c d : Int), spec_l12Draw.f k (z, (a, (b, ()))) = some ((p, (m, ())), ((z, (c, (d, ()))), ())) ∧ p.length ≤ 100 ∧ m.length ≤ 100 ∧ Src z c d := by
  unfold spec_l12Draw.f
  obtain ⟨r1, c1, d1, e1, g1, g2, s1⟩ := next_ok (k := k) hs (n := 5) (by omega)
  have w1 : IntKind.wrap .i64 (2 + r1) = 2 + r1 := wrap_id (by omega) (by omega)
  obtain ⟨S, hS⟩ := Int.eq_ofNat_of_zero_le (show 0 ≤ 2 + r1 by omega)
  have hS' : 2 + r1 = (S : Int) := hS
  rw [hS'] at w1
  obtain ⟨⟨z2, c2, d2, y1, y2⟩, e2, rfl, hy1, hy2, s2⟩ := draw4_ok (R := (List Int × List Bool × Unit) × (List Int × Int × Int × Unit) × Unit) K s1 (S := S) (by omega)
  simp only at hy1 hy2 s2
  obtain ⟨r10, c3, d3, e3, _, _, s3⟩ := next_ok (k := k) s2 (n := 24) (by omega)
  have h0 : 0 < y1.length := by omega
  have h0' : decide ((0 : Int) < (y1.length : Int)) = true := by simp; omega
  have m1 : decide ((y1.length + ([(5 : Int)] : List Int).length) * 8 ≤ AM.maxBytes) = true := room (by simp; omega) (by omega)
  simp only [e1, Option.bind_some, w1, hS', e2, e3, m1, cond_true]
  cases (r10 == 0) with
  | true => exact ⟨_, _, _, _, rfl, by simp; omega, by omega, s3⟩
  | false =>
    simp only [cond_false]
    cases (r10 == 1) with
    | true =>
      obtain ⟨r4, c4, d4, e4, _, s4⟩ := pick_ok (k := k) s3 (l := [-1, 600000, 600001]) (by simp) (by simp)
      simp only [cond_true, e4, Option.bind_some, h0', decide_eq_true h0, Int.le_refl, decide_true, Bool.and_self]
      exact ⟨_, _, _, _, rfl, by simp; omega, by omega, s4⟩
    | false =>
      simp only [cond_false]
      cases (r10 == 2) with
      | true =>
        obtain ⟨w, e5, y, rfl, hy⟩ := draw15_ok (R := (List Int × List Bool × Unit) × (List Int × Int × Int × Unit) × Unit) K z2 c3 d3 y1 y2 (by omega)
        simp only [cond_true, e5]
        exact ⟨_, _, _, _, rfl, by omega, by omega, s3⟩
      | false =>
        simp only [cond_false]
        cases (r10 == 3) with
        | true =>
          obtain ⟨r6, c6, d6, e6, g6, g6', s6⟩ := next_ok (k := k) s3 (n := 4) (by omega)
          have c9 : decide (r6 ≤ ((([(0 : Int), (5 : Int), (3 : Int)] : List Int).length : Nat) : Int)) = true := by simp; omega
          simp only [cond_true, e6, Option.bind_some, c9, decide_eq_true g6, Int.le_refl, decide_true, Bool.and_self]
          exact ⟨_, _, _, _, rfl, by simp; omega, by simp, s6⟩
        | false =>
          simp only [cond_false]
          cases (r10 == 4) with
          | true =>
            obtain ⟨w, e5, y, rfl, hy⟩ := draw22_ok (R := (List Int × List Bool × Unit) × (List Int × Int × Int × Unit) × Unit) K z2 c3 d3 y1 y2 (by omega)
            have g0 : 0 < y.length := by omega
            have g0' : decide ((0 : Int) < (y.length : Int)) = true := by simp; omega
            simp only [cond_true, e5, g0', decide_eq_true g0, Int.le_refl, decide_true, Bool.and_self]
            exact ⟨_, _, _, _, rfl, by omega, by simp; omega, s3⟩
          | false =>
            simp only [cond_false]
            exact ⟨_, _, _, _, rfl, by omega, by omega, s3⟩

/-- The bytes of a seed. -/
theorem seed_bytes {a0 : List Int} (h : ∀ x ∈ a0, (decide (IntKind.min .u8 ≤ x) && decide (x ≤ IntKind.max .u8)) = true) : ∀ i, i < a0.length → 0 ≤ a0.getD i 0 ∧ a0.getD i 0 < 256 := by
  intro i hi
  have := h (a0.getD i 0) (mem_getD.2 ⟨i, hi, rfl⟩)
  have e1 : IntKind.min .u8 = 0 := rfl
  have e2 : IntKind.max .u8 = 255 := rfl
  rw [e1, e2] at this
  simp only [Bool.and_eq_true, decide_eq_true_eq] at this
  omega

theorem likeInts_self {k : Nat} (K : 2^42 ≤ k) {l : List Int} (hl : l.length ≤ 2^40) : laws_likeInts.f k l l = some ((true, ()), ()) := by
  unfold laws_likeInts.f
  have c : ((l.length : Int) != (l.length : Int)) = false := by simp
  simp only [c, cond_false]
  refine (laws_likeInts.l4_for l.length (fun i a b => l = a ∧ l = b) (fun _ _ _ => some ((true, ()), ())) ?_ k 0 _ _ (Nat.zero_le _) ⟨rfl, rfl⟩ (by omega))
  rintro i _ b rec hi ⟨rfl, hb⟩ hrec
  subst hb
  unfold laws_likeInts.s4
  by_cases h : i < l.length
  · have e := hrec _ _ h ⟨rfl, rfl⟩
    have c2 : (l.getD i 0 != l.getD i 0) = false := by simp
    simp only [ltD h, nn, Bool.and_self, cond_true, Int.toNat_natCast, c2, cond_false, wrap_succ (show i < 2^62 by omega)]
    exact e
  · have : i = l.length := by omega
    subst this
    have c0 : decide ((l.length : Int) < (l.length : Int)) = false := by simp
    simp only [c0, cond_false]

theorem sum_eq {k : Nat} (K : 2^42 ≤ k) {l : List Int} (hl : l.length ≤ 2^20) (hb : ∀ j, j < l.length → -1073741824 ≤ l.getD j 0 ∧ l.getD j 0 ≤ 1073741824) : laws_sum.f k l = some ((l.sum, ()), ()) := by
  unfold laws_sum.f
  have hbd : ∀ i, i ≤ l.length → -(1073741824 * (i : Int)) ≤ (l.take i).sum ∧ (l.take i).sum ≤ 1073741824 * (i : Int) := by
    intro i
    induction i with
    | zero => intro _; simp
    | succ i ih =>
      intro h
      have := ih (by omega)
      have := hb i (by omega)
      rw [getD_lt (by omega)] at this
      rw [sum_take_succ (by omega)]
      omega
  refine (laws_sum.l3_for l.length (fun i a s => l = a ∧ (l.take i).sum = s) (fun _ _ _ => some ((l.sum, ()), ())) ?_ k 0 _ _ (Nat.zero_le _) ⟨rfl, by simp⟩ (by omega))
  rintro i _ _ rec hi ⟨rfl, rfl⟩ hrec
  unfold laws_sum.s3
  by_cases h : i < l.length
  · have e := hrec _ _ h ⟨rfl, rfl⟩
    have h1 := hbd i (by omega)
    have h2 := hb i h
    rw [getD_lt h] at h2
    have hw : IntKind.wrap .i64 ((l.take i).sum + l[i]) = (l.take (i + 1)).sum := by rw [sum_take_succ h, wrap_id (by omega) (by omega)]
    simp only [ltD h, nn, Bool.and_self, cond_true, Int.toNat_natCast, getD_lt h, hw, wrap_succ (show i < 2^62 by omega)]
    exact e
  · have : i = l.length := by omega
    subst this
    have c0 : decide ((l.length : Int) < (l.length : Int)) = false := by simp
    simp only [c0, cond_false, List.take_length]

theorem A_trans (p : List Int) (a b c : Int) : ∀ i, A p a b i + A p b c i = A p a c i
  | 0 => by simp [A]
  | i + 1 => by
    have := A_trans p a b c i
    rw [A_succ, A_succ, A_succ]
    omega

theorem A_refl (p : List Int) (a : Int) : ∀ i, A p a a i = 0
  | 0 => by simp [A]
  | i + 1 => by
    have := A_refl p a i
    rw [A_succ]
    omega

theorem A_O {p : List Int} (hp : Pay p) (x : Int) : ∀ i, i ≤ p.length → A p 0 x i + O p x i = (p.take i).sum
  | 0, _ => by simp [A, O]
  | i + 1, h => by
    have := A_O hp x i (by omega)
    have := hp i (by omega)
    rw [A_succ, O_succ, sum_take_succ (by omega), ← getD_lt (show i < p.length by omega) 0]
    have : (if (0 : Int) < p.getD i 0 then (0 : Int) else p.getD i 0) = 0 := by split <;> omega
    rw [this]
    omega

/-- The pots' total. -/
def totP (p : List Int) (m : List Bool) (L : List Int) (i : Nat) : Int := ((List.range i).map fun t => (pot p m L p.length t).1).sum

theorem totP_succ (p : List Int) (m : List Bool) (L : List Int) (i : Nat) : totP p m L (i + 1) = totP p m L i + (pot p m L p.length i).1 := by
  unfold totP; rw [List.range_succ, List.map_append, List.sum_append]; simp

theorem pv_succ (L : List Int) (i : Nat) : pv L (i + 1) = L.getD i 0 := by unfold pv; rw [if_neg (by omega)]; rfl

theorem totP_eq (p : List Int) (m : List Bool) (L : List Int) : ∀ i, i ≤ L.length → totP p m L i = A p 0 (pv L i) p.length + (if i = L.length ∧ 0 < i then O p (pv L i) p.length else 0)
  | 0, _ => by simp [totP, pv, A_refl]
  | i + 1, h => by
    rw [totP_succ, totP_eq p m L i (by omega), if_neg (by omega), pv_succ]
    have := A_trans p 0 (pv L i) (L.getD i 0) p.length
    simp only [pot]
    by_cases c : i + 1 = L.length
    · rw [if_pos c, if_pos ⟨c, by omega⟩]; omega
    · rw [if_neg c, if_neg (fun h => c h.1)]; omega

theorem sum_set : ∀ (l : List Int) (j : Nat) (x : Int), j < l.length → (l.set j x).sum = l.sum - l.getD j 0 + x
  | [], j, x, h => by simp at h
  | y :: l, 0, x, _ => by simp; omega
  | y :: l, j + 1, x, h => by
    have := sum_set l j x (by simpa using h)
    simp only [List.set_cons_succ, List.sum_cons, List.getD_cons_succ, this]
    omega

theorem sec_ge (b : Nat) : ∀ (l : List Int) (i : Nat) (s : Int), s ≤ secGo b i l s ∧ ∀ t, t < l.length → i + t ≠ b → l.getD t 0 ≤ secGo b i l s
  | [], i, s => ⟨Int.le_refl _, fun t h => by simp at h⟩
  | x :: r, i, s => by
    rw [secGo]
    obtain ⟨h1, h2⟩ := sec_ge b r (i + 1) (if i = b then s else if x > s then x else s)
    refine ⟨?_, fun t ht hb => ?_⟩
    · revert h1
      split
      · exact id
      · split <;> (intro h1; omega)
    · cases t with
      | zero =>
        rw [if_neg (by omega)] at h1 ⊢
        simp only [List.getD_cons_zero]
        revert h1
        split <;> (intro h1; omega)
      | succ t =>
        simp only [List.getD_cons_succ]
        exact h2 t (by simpa using ht) (by omega)

theorem live_ex : ∀ (l : List Int) (m : List Bool), live l m = true → ∃ j, j < l.length ∧ m.getD j false = false ∧ 0 < l.getD j 0
  | [], m, h => by simp [live] at h
  | x :: l, [], h => by simp [live] at h
  | x :: l, y :: m, h => by
    rw [live, Bool.or_eq_true, Bool.and_eq_true] at h
    rcases h with ⟨h1, h2⟩ | h
    · exact ⟨0, by simp, by simpa using h1, by simpa using h2⟩
    · obtain ⟨j, h1, h2, h3⟩ := live_ex l m h
      exact ⟨j + 1, by simpa using h1, by simpa using h2, by simpa using h3⟩

theorem refL_sum {l : List Int} {b : Nat} (hl : l.all (inB 0 600000) = true) (hb : IsBest l l.length b) : (refL l b).sum + (uncR l b).2 = l.sum := by
  have hin : ∀ x ∈ l, 0 ≤ x ∧ x ≤ 600000 := all_inB hl
  have hg : ∀ j, j < l.length → 0 ≤ l.getD j 0 ∧ l.getD j 0 ≤ 600000 := fun j hj => hin _ (mem_getD.2 ⟨j, hj, rfl⟩)
  have hs := secGo_in b l 0 0 hin (by omega) (by omega)
  have hbl := hg b hb.1
  have h0 := hg 0 (by have := hb.1; omega)
  have hlen : 0 < l.length := by have := hb.1; omega
  unfold refL uncR
  split
  · rw [Int.toNat_zero, sum_set _ _ _ hlen, Int.sub_zero, wrap_id (by omega) (by omega)]; omega
  · simp only [Int.toNat_natCast]
    have w1 : IntKind.wrap .i64 (l.getD b 0 - secGo b 0 l 0) = l.getD b 0 - secGo b 0 l 0 := wrap_id (by omega) (by omega)
    rw [sum_set _ _ _ hb.1, w1, wrap_id (by omega) (by omega)]; omega

theorem sum_zero : ∀ (l : List Int), (∀ j, j < l.length → l.getD j 0 = 0) → l.sum = 0
  | [], _ => rfl
  | x :: l, h => by
    have h0 := h 0 (by simp)
    have := sum_zero l (fun j hj => by simpa using h (j + 1) (by simpa using hj))
    simp only [List.getD_cons_zero] at h0
    simp [h0, this]

/-- All pots and the uncalled chips are all payments. -/
theorem pots_sum {l : List Int} {m : List Bool} {b : Nat} {L : List Int} (hpays : pays l m = true) (hb : IsBest l l.length b) (hL : Lv L (refL l b) m) : totP (refL l b) m L L.length + (uncR l b).2 = l.sum ∧ totP (refL l b) m L L.length = (refL l b).sum := by
  have p3 := (pays_len hpays).2.2.1
  have hp := refL_pay p3 hb
  have hs := refL_sum p3 hb
  have key : totP (refL l b) m L L.length = (refL l b).sum := by
    rw [totP_eq _ _ _ _ (Nat.le_refl _)]
    by_cases c : 0 < L.length
    · rw [if_pos ⟨rfl, c⟩, A_O hp _ _ (Nat.le_refl _), List.take_length]
    · have hl0 : L.length = 0 := by omega
      rw [if_neg (fun h => c h.2), hl0]
      have hpv : pv L 0 = 0 := rfl
      rw [hpv, A_refl]
      have hlive : live l m = true := by simp only [pays, Bool.and_eq_true] at hpays; exact hpays.2.2
      obtain ⟨j, hj, hjm, hjp⟩ := live_ex l m hlive
      have hL0 : L = [] := List.eq_nil_of_length_eq_zero hl0
      have hno : ∀ j, j < (refL l b).length → m.getD j false = false → ¬ 0 < (refL l b).getD j 0 := by
        intro j h1 h2 h3
        have := (hL.2 _).2 ⟨j, h1, h2, h3, rfl⟩
        rw [hL0] at this
        simp at this
      have hlen : (refL l b).length = l.length := by simp [refL]
      have h1 := hno j (by omega) hjm
      have hg : ∀ j, j < l.length → 0 ≤ l.getD j 0 ∧ l.getD j 0 ≤ 600000 := fun j hj => all_inB p3 _ (mem_getD.2 ⟨j, hj, rfl⟩)
      have hsec := sec_ge b l 0 0
      have hsin := secGo_in b l 0 0 (all_inB p3) (by omega) (by omega)
      have hbl := hg b hb.1
      have h00 := hg 0 (by omega)
      symm
      apply sum_zero
      intro i hi
      unfold refL uncR at h1 ⊢
      split at h1
      · rename_i c1
        rw [Int.toNat_zero, set_getD (by omega), Int.sub_zero, wrap_id (by omega) (by omega)] at h1
        exfalso
        apply h1
        split
        · rename_i c2; rw [← c2]; exact hjp
        · exact hjp
      · rename_i c1
        rw [if_neg c1]
        simp only [Int.toNat_natCast] at h1 ⊢
        have w1 : IntKind.wrap .i64 (l.getD b 0 - secGo b 0 l 0) = l.getD b 0 - secGo b 0 l 0 := wrap_id (by omega) (by omega)
        have w2 : IntKind.wrap .i64 (l.getD b 0 - (l.getD b 0 - secGo b 0 l 0)) = secGo b 0 l 0 := by rw [wrap_id (by omega) (by omega)]; omega
        rw [set_getD hb.1, w1, w2] at h1 ⊢
        by_cases c2 : j = b
        · rw [if_pos c2] at h1
          by_cases c3 : i = b
          · rw [if_pos c3]; omega
          · rw [if_neg c3]
            have := hsec.2 i (by omega) (by omega)
            have := hg i (by omega)
            omega
        · rw [if_neg c2] at h1; omega
  exact ⟨by rw [key]; exact hs, key⟩

theorem iUncalledOf_eq {k : Nat} (K : 2^42 ≤ k) {l : List Int} {m : List Bool} {b : Nat} (hp : pays l m = true) (hb : IsBest l l.length b) : impl_UncalledOf.f k l m = some (((uncR l b).1, (uncR l b).2, 0, ()), ()) := by
  have := pays_len hp
  unfold impl_UncalledOf.f
  simp only [iArePayments_eq K (show l.length ≤ 2^40 by omega), hp, Option.bind_some, Bool.not_true, cond_false, iUncalled_eq K (show l.length ≤ 2^40 by omega) hb]

theorem back_in {l : List Int} {b : Nat} (hl : l.all (inB 0 600000) = true) (hb : IsBest l l.length b) : 0 ≤ (uncR l b).2 ∧ (uncR l b).2 ≤ 600000 := by
  have hin : ∀ x ∈ l, 0 ≤ x ∧ x ≤ 600000 := all_inB hl
  have hs := secGo_in b l 0 0 hin (by omega) (by omega)
  have hge := hb.2.2
  have hbl := hin (l.getD b 0) (mem_getD.2 ⟨b, hb.1, rfl⟩)
  have hsec : secGo b 0 l 0 ≤ l.getD b 0 := by
    have key : ∀ (r : List Int) (i : Nat) (s : Int), s ≤ l.getD b 0 → (∀ t, t < r.length → r.getD t 0 ≤ l.getD b 0) → secGo b i r s ≤ l.getD b 0 := by
      intro r
      induction r with
      | nil => intro i s h _; exact h
      | cons x r ih =>
        intro i s h h'
        rw [secGo]
        apply ih
        · have := h' 0 (by simp)
          simp only [List.getD_cons_zero] at this
          split
          · exact h
          · split <;> omega
        · intro t ht
          have := h' (t + 1) (by simpa using ht)
          simpa using this
    exact key l 0 0 (by omega) (fun t ht => hge t ht)
  unfold uncR
  split
  · simp
  · simp only
    rw [wrap_id (by omega) (by omega)]
    omega

theorem pots_mem {p L : List Int} {m : List Bool} {b : Nat} : ∀ t (h : t < (potsF p m L).length), (potsF p m L)[t] = pot p m L p.length t := by
  intro t h
  simp only [potsF, potsI, List.getElem_map, List.getElem_range]

theorem sub_len : ∀ (L l : List Int), L.Nodup → (∀ x ∈ L, x ∈ l) → L.length ≤ l.length
  | [], l, _, _ => by simp
  | x :: L, l, hn, h => by
    rw [List.nodup_cons] at hn
    have hx := h x (by simp)
    have := sub_len L (l.erase x) hn.2 (fun y hy => (List.mem_erase_of_ne (fun (e : y = x) => hn.1 (e ▸ hy))).2 (h y (by simp [hy])))
    rw [List.length_erase_of_mem hx] at this
    have := List.length_pos_of_mem hx
    simp only [List.length_cons]
    omega

theorem seat_mod {S F i : Nat} (hF : F < S) (hi : i < S) : (F + i) % S = if F + i < S then F + i else F + i - S := by
  split
  · exact Nat.mod_eq_of_lt (by assumption)
  · rw [Nat.mod_eq_sub_mod (by omega)]
    exact Nat.mod_eq_of_lt (by omega)

/-- How many winners the first turns meet. -/
def met (w : List Int) (S F i : Nat) : Nat := ((List.range i).filter fun j => decide ((((F + j) % S : Nat) : Int) ∈ w)).length

theorem met_succ (w : List Int) (S F i : Nat) : met w S F (i + 1) = met w S F i + (if (((F + i) % S : Nat) : Int) ∈ w then 1 else 0) := by
  unfold met
  rw [List.range_succ, List.filter_append, List.length_append]
  by_cases c : (((F + i) % S : Nat) : Int) ∈ w
  · rw [if_pos c]; simp only [List.filter_cons, decide_eq_true c, if_true, List.filter_nil, List.length_cons, List.length_nil]
  · rw [if_neg c]; simp only [List.filter_cons, decide_eq_false c, Bool.false_eq_true, if_false, List.filter_nil, List.length_nil]

theorem wins_strict {w : List Int} {n : Int} (h : wins w n = true) : w.Pairwise (· < ·) := by
  simp only [wins, Bool.and_eq_true] at h
  have hr := h.2.2
  have key : ∀ (l : List Int), risesB l = true → l.Pairwise (· < ·) := by
    intro l
    induction l with
    | nil => intro _; exact List.Pairwise.nil
    | cons x l ih =>
      intro hr
      cases l with
      | nil => simp
      | cons y l =>
        rw [risesB, Bool.and_eq_true, decide_eq_true_eq] at hr
        have := ih hr.2
        rw [List.pairwise_cons]
        refine ⟨fun z hz => ?_, this⟩
        rw [List.pairwise_cons] at this
        rcases List.mem_cons.1 hz with e | e
        · rw [e]; exact hr.1
        · have := this.1 z e; omega
  exact key w hr

theorem met_all {w : List Int} {S F : Nat} (hw : wins w S = true) (hF : F < S) : met w S F S = w.length := by
  have hn : w.Nodup := (wins_strict hw).imp (fun h e => by omega)
  have hin := all_inB (wins_all hw)
  have e : met w S F S = (((List.range S).filter fun j => decide ((((F + j) % S : Nat) : Int) ∈ w)).map fun j => (((F + j) % S : Nat) : Int)).length := by
    rw [List.length_map]; rfl
  rw [e]
  apply Nat.le_antisymm
  · apply sub_len
    · rw [List.Nodup, List.pairwise_map]
      have hp : ((List.range S).filter fun j => decide ((((F + j) % S : Nat) : Int) ∈ w)).Pairwise (fun a b => a < b ∧ b < S) := by
        apply List.Pairwise.filter
        have h1 : (List.range S).Pairwise (· < ·) := List.pairwise_lt_range
        rw [List.pairwise_iff_getElem] at h1 ⊢
        intro i j hi hj hij
        refine ⟨h1 i j hi hj hij, ?_⟩
        rw [List.getElem_range]
        simpa using hj
      refine hp.imp ?_
      rintro a b ⟨h1, h2⟩ he
      have he : (F + a) % S = (F + b) % S := by omega
      rw [seat_mod hF (by omega), seat_mod hF h2] at he
      split at he <;> split at he <;> omega
    · intro x hx
      obtain ⟨j, hj, rfl⟩ := List.mem_map.1 hx
      simpa using (List.mem_filter.1 hj).2
  · apply sub_len _ _ hn
    intro x hx
    have hx' := hin x hx
    obtain ⟨s, rfl⟩ := Int.eq_ofNat_of_zero_le hx'.1
    have hs : s < S := by omega
    have hm : ∃ i, i < S ∧ (F + i) % S = s := by
      by_cases c : F ≤ s
      · exact ⟨s - F, by omega, by rw [seat_mod hF (by omega), if_pos (by omega)]; omega⟩
      · exact ⟨s + S - F, by omega, by rw [seat_mod hF (by omega), if_neg (by omega)]; omega⟩
    obtain ⟨i, hi, he⟩ := hm
    exact List.mem_map.2 ⟨i, List.mem_filter.2 ⟨List.mem_range.2 hi, by rw [he]; simpa using hx⟩, by rw [he]⟩

theorem sp_rest {w : List Int} {S F : Nat} {a : Int} (ha : 0 ≤ a) : ∀ i, (spRun w S F a i).1 = max 0 (a.tmod w.length - (met w S F i : Int))
  | 0 => by
    simp only [spRun, List.range_zero, List.foldl_nil, met, List.filter_nil, List.length_nil]
    have : 0 ≤ a.tmod w.length := Int.tmod_nonneg _ ha
    omega
  | i + 1 => by
    have ih := sp_rest (w := w) (S := S) (F := F) ha i
    rw [spRun_succ, met_succ]
    unfold spStep
    by_cases c : (((F + i) % S : Nat) : Int) ∈ w
    · rw [if_pos c, if_pos c]
      split
      · simp only; omega
      · simp only; omega
    · rw [if_neg c, if_neg c]
      rw [ih]; simp

/-- What the seats have after some turns. -/
theorem sp_seat {w : List Int} {S F : Nat} {a : Int} (hF : F < S) : ∀ i, i ≤ S → ∀ s, s < S → ((∃ j, j < i ∧ (F + j) % S = s) ∧ (s : Int) ∈ w → (spRun w S F a i).2.getD s 0 = a.tdiv w.length ∨ (spRun w S F a i).2.getD s 0 = a.tdiv w.length + 1) ∧ (¬ ((∃ j, j < i ∧ (F + j) % S = s) ∧ (s : Int) ∈ w) → (spRun w S F a i).2.getD s 0 = 0)
  | 0, _, s, hs => by
    refine ⟨fun h => by obtain ⟨⟨j, hj, _⟩, _⟩ := h; omega, fun _ => ?_⟩
    simp only [spRun, List.range_zero, List.foldl_nil]
    rw [getD_lt (by simpa using hs)]
    simp
  | i + 1, hi, s, hs => by
    obtain ⟨h1, h2⟩ := sp_seat (w := w) (a := a) hF i (by omega) s hs
    have hlen := spRun_len w S F a i
    have hm := seat_mod hF (show i < S by omega)
    have hlt : (F + i) % S < S := Nat.mod_lt _ (by omega)
    rw [spRun_succ]
    unfold spStep
    by_cases c : (((F + i) % S : Nat) : Int) ∈ w
    · rw [if_pos c]
      have goal : ∀ v, (v = a.tdiv w.length ∨ v = a.tdiv w.length + 1) → (((∃ j, j < i + 1 ∧ (F + j) % S = s) ∧ (s : Int) ∈ w → ((spRun w S F a i).2.set ((F + i) % S) v).getD s 0 = a.tdiv w.length ∨ ((spRun w S F a i).2.set ((F + i) % S) v).getD s 0 = a.tdiv w.length + 1) ∧ (¬ ((∃ j, j < i + 1 ∧ (F + j) % S = s) ∧ (s : Int) ∈ w) → ((spRun w S F a i).2.set ((F + i) % S) v).getD s 0 = 0)) := by
        intro v hv
        rw [set_getD (by omega)]
        by_cases d : s = (F + i) % S
        · rw [if_pos d]
          refine ⟨fun _ => hv, fun hn => absurd ⟨⟨i, by omega, d.symm⟩, d ▸ c⟩ hn⟩
        · rw [if_neg d]
          refine ⟨fun ⟨⟨j, hj, e⟩, hsw⟩ => h1 ⟨⟨j, by
            by_cases q : j = i
            · subst q; exact absurd e.symm d
            · omega, e⟩, hsw⟩, fun hn => h2 (fun ⟨⟨j, hj, e⟩, hsw⟩ => hn ⟨⟨j, by omega, e⟩, hsw⟩)⟩
      split
      · exact goal _ (.inr rfl)
      · exact goal _ (.inl rfl)
    · rw [if_neg c]
      refine ⟨fun ⟨⟨j, hj, e⟩, hsw⟩ => h1 ⟨⟨j, by
        by_cases q : j = i
        · subst q; rw [← e] at hsw; exact absurd hsw c
        · omega, e⟩, hsw⟩, fun hn => h2 (fun ⟨⟨j, hj, e⟩, hsw⟩ => hn ⟨⟨j, by omega, e⟩, hsw⟩)⟩

theorem sp_sum {w : List Int} {S F : Nat} {a : Int} (hF : F < S) : ∀ i, i ≤ S → (spRun w S F a i).2.sum + (spRun w S F a i).1 = a.tmod w.length + a.tdiv w.length * (met w S F i : Int)
  | 0, _ => by
    simp only [spRun, List.range_zero, List.foldl_nil, met, List.filter_nil, List.length_nil]
    have : (List.replicate S (0 : Int)).sum = 0 := sum_zero _ (fun j hj => by rw [getD_lt hj]; simp)
    rw [this]; simp
  | i + 1, hi => by
    have ih := sp_sum (w := w) (a := a) hF i (by omega)
    have hlen := spRun_len w S F a i
    have hlt : (F + i) % S < S := Nat.mod_lt _ (by omega)
    have h0 : (spRun w S F a i).2.getD ((F + i) % S) 0 = 0 := (sp_seat (w := w) (a := a) hF i (by omega) _ hlt).2 (by
      rintro ⟨⟨j, hj, e⟩, _⟩
      rw [seat_mod hF (by omega), seat_mod hF (by omega)] at e
      split at e <;> split at e <;> omega)
    rw [spRun_succ, met_succ]
    unfold spStep
    by_cases c : (((F + i) % S : Nat) : Int) ∈ w
    · rw [if_pos c, if_pos c]
      have e : a.tdiv w.length * ((met w S F i + 1 : Nat) : Int) = a.tdiv w.length * (met w S F i : Int) + a.tdiv w.length := by
        rw [Int.natCast_succ, Int.mul_add, Int.mul_one]
      rw [e]
      split
      · simp only; rw [sum_set _ _ _ (by omega), h0]; omega
      · simp only; rw [sum_set _ _ _ (by omega), h0]; omega
    · rw [if_neg c, if_neg c, Nat.add_zero]; exact ih

/-- What is split adds up. -/
theorem splitL_sum {w : List Int} {S F : Nat} {a : Int} (hw : wins w S = true) (hF : F < S) (ha : 0 ≤ a) : (splitL w S F a).sum = a := by
  have h1 := sp_sum (w := w) (a := a) hF S (Nat.le_refl _)
  have h2 := sp_rest (w := w) (S := S) (F := F) ha S
  rw [met_all hw hF] at h1 h2
  have hpos := wins_pos hw
  have h3 : a.tmod w.length < w.length := Int.tmod_lt_of_pos _ (by omega)
  have h4 := Int.tmod_add_mul_tdiv a w.length
  have h5 : (w.length : Int) * a.tdiv w.length = a.tdiv w.length * (w.length : Int) := Int.mul_comm _ _
  unfold splitL
  omega

theorem splitL_seat {w : List Int} {S F : Nat} {a : Int} (hw : wins w S = true) (hF : F < S) {s : Nat} (hs : s < S) : ((s : Int) ∈ w → (splitL w S F a).getD s 0 = a.tdiv w.length ∨ (splitL w S F a).getD s 0 = a.tdiv w.length + 1) ∧ ((s : Int) ∉ w → (splitL w S F a).getD s 0 = 0) := by
  obtain ⟨h1, h2⟩ := sp_seat (w := w) (a := a) hF S (Nat.le_refl _) s hs
  have hm : ∃ i, i < S ∧ (F + i) % S = s := by
    by_cases c : F ≤ s
    · exact ⟨s - F, by omega, by rw [seat_mod hF (by omega), if_pos (by omega)]; omega⟩
    · exact ⟨s + S - F, by omega, by rw [seat_mod hF (by omega), if_neg (by omega)]; omega⟩
  exact ⟨fun h => h1 ⟨hm, h⟩, fun h => h2 (fun hh => h hh.2)⟩

theorem addL_getD {a b : List Int} (hl : b.length = a.length) {i : Nat} (hi : i < a.length) (h1 : 0 ≤ a.getD i 0) (h1' : a.getD i 0 ≤ 2^60) (h2 : 0 ≤ b.getD i 0) (h2' : b.getD i 0 ≤ 2^60) : (addL a b).getD i 0 = a.getD i 0 + b.getD i 0 := by
  rw [getD_lt (show i < (addL a b).length by rw [addL_len hl]; exact hi), addL_get hi (by omega)]
  rw [getD_lt hi] at *
  rw [getD_lt (show i < b.length by omega)] at *
  exact wrap_id (by omega) (by omega)

theorem addL_sum : ∀ (a b : List Int), b.length = a.length → (∀ x ∈ a, 0 ≤ x ∧ x ≤ 2^60) → (∀ x ∈ b, 0 ≤ x ∧ x ≤ 2^60) → (addL a b).sum = a.sum + b.sum
  | [], b, h, _, _ => by
    have : b = [] := List.eq_nil_of_length_eq_zero (by simpa using h)
    subst this; simp [addL]
  | x :: a, [], h, _, _ => by simp at h
  | x :: a, y :: b, h, h1, h2 => by
    have ih := addL_sum a b (by simpa using h) (fun z hz => h1 z (by simp [hz])) (fun z hz => h2 z (by simp [hz]))
    have hx := h1 x (by simp)
    have hy := h2 y (by simp)
    have hw : IntKind.wrap .i64 (x + y) = x + y := wrap_id (by omega) (by omega)
    have : addL (x :: a) (y :: b) = IntKind.wrap .i64 (x + y) :: addL a b := rfl
    rw [this, hw, List.sum_cons, List.sum_cons, List.sum_cons, ih]
    omega

theorem le_sum : ∀ (l : List Int), (∀ x ∈ l, 0 ≤ x) → 0 ≤ l.sum ∧ ∀ x ∈ l, x ≤ l.sum
  | [], _ => by simp
  | y :: l, h => by
    obtain ⟨h0, h1⟩ := le_sum l (fun z hz => h z (by simp [hz]))
    have hy := h y (by simp)
    rw [List.sum_cons]
    refine ⟨by omega, fun x hx => ?_⟩
    rcases List.mem_cons.1 hx with e | e
    · omega
    · have := h1 x e; omega

theorem best_sub (hi : Bool) (v w : List Int) : ∀ i, (bestRun hi v w i).2.Sublist (w.take i)
  | 0 => by simp [bestRun]
  | i + 1 => by
    have ih := best_sub hi v w i
    by_cases h : i < w.length
    · rw [bestRun_succ h, ← List.take_append_getElem h]
      unfold bestStep
      split
      · exact List.Sublist.trans ih (List.sublist_append_left _ _)
      · split
        · exact List.sublist_append_right _ _
        · split
          · exact List.Sublist.append ih (List.Sublist.refl _)
          · exact List.Sublist.trans ih (List.sublist_append_left _ _)
    · have e : w.take (i + 1) = w.take i := by rw [List.take_of_length_le (by omega), List.take_of_length_le (by omega)]
      unfold bestRun at *
      rw [e]; exact ih

theorem best_mem {hi : Bool} {v w : List Int} {x : Int} (h : x ∈ bestL hi v w) : x ∈ w := by
  have := (best_sub hi v w w.length).subset h
  rw [List.take_length] at this
  exact this

theorem best_wins {hi : Bool} {v w : List Int} {n : Int} (h : wins w n = true) (h0 : 0 < (bestL hi v w).length) : wins (bestL hi v w) n = true := by
  have hs := best_sub hi v w w.length
  rw [List.take_length] at hs
  have hp : (bestL hi v w).Pairwise (· < ·) := (wins_strict h).sublist hs
  simp only [wins, Bool.and_eq_true]
  refine ⟨decide_eq_true h0, ?_, rises_of ?_⟩
  · rw [List.all_eq_true]
    intro x hx
    exact inB_iff.2 (all_inB (wins_all h) x (best_mem hx))
  · intro a b hab hb
    rw [getD_lt (by omega), getD_lt hb]
    exact List.pairwise_iff_getElem.1 hp a b (by omega) hb hab

/-- What a split gives. -/
theorem splitL_ok {w : List Int} {S F : Nat} {a : Int} (hw : wins w S = true) (hF : F < S) (ha : 0 ≤ a) : (splitL w S F a).sum = a ∧ (∀ x ∈ splitL w S F a, 0 ≤ x ∧ x ≤ a) ∧ ∀ s, s < S → (splitL w S F a).getD s 0 ≠ 0 → (s : Int) ∈ w := by
  have hs := splitL_sum hw hF ha
  have h0 : ∀ x ∈ splitL w S F a, 0 ≤ x := fun x hx => (spRun_in w S F ha S x hx).1
  have hle := le_sum _ h0
  refine ⟨hs, fun x hx => ⟨h0 x hx, by have := hle.2 x hx; omega⟩, fun s hs h => ?_⟩
  by_cases c : (s : Int) ∈ w
  · exact c
  · exact absurd ((splitL_seat (a := a) hw hF hs).2 c) h

/-- Who gets chips of a pot. -/
def Won (w v1 v2 : List Int) (s : Int) : Prop := s ∈ bestL true v1 w ∨ s ∈ bestL false v2 w ∨ ((bestL true v1 w).length = 0 ∧ (bestL false v2 w).length = 0 ∧ s ∈ w)

theorem Won.mem {w v1 v2 : List Int} {s : Int} (h : Won w v1 v2 s) : s ∈ w := by
  rcases h with h | h | h
  · exact best_mem h
  · exact best_mem h
  · exact h.2.2

theorem getD_nn {l : List Int} {b : Int} (hb : 0 ≤ b) (h : ∀ x ∈ l, 0 ≤ x ∧ x ≤ b) (s : Nat) : 0 ≤ l.getD s 0 ∧ l.getD s 0 ≤ b := by
  by_cases c : s < l.length
  · exact h _ (mem_getD.2 ⟨s, c, rfl⟩)
  · rw [List.getD_eq_getElem?_getD, List.getElem?_eq_none (by omega)]; exact ⟨Int.le_refl _, hb⟩

theorem awardL_ok {w v1 v2 : List Int} {S F : Nat} {a : Int} (hw : wins w S = true) (hF : F < S) (ha : 0 ≤ a) (ha' : a ≤ 1073741824) : (awardL a w v1 v2 S F).sum = a ∧ (∀ x ∈ awardL a w v1 v2 S F, 0 ≤ x ∧ x ≤ a) ∧ ∀ s, s < S → (awardL a w v1 v2 S F).getD s 0 ≠ 0 → Won w v1 v2 s := by
  have hh := half ha
  unfold awardL
  by_cases c1 : 0 < (bestL true v1 w).length
  · rw [if_pos c1]
    by_cases c2 : 0 < (bestL false v2 w).length
    · rw [if_pos c2]
      obtain ⟨a1, a2, a3⟩ := splitL_ok (best_wins (v := v1) (hi := true) hw c1) hF (show 0 ≤ a - a.tdiv 2 by omega)
      obtain ⟨b1, b2, b3⟩ := splitL_ok (best_wins (v := v2) (hi := false) hw c2) hF hh.1
      have l1 := splitL_len (bestL true v1 w) S F (a - a.tdiv 2)
      have l2 := splitL_len (bestL false v2 w) S F (a.tdiv 2)
      generalize splitL (bestL true v1 w) S F (a - a.tdiv 2) = X at *
      generalize splitL (bestL false v2 w) S F (a.tdiv 2) = Y at *
      have g : ∀ s, s < S → (addL X Y).getD s 0 = X.getD s 0 + Y.getD s 0 := by
        intro s hs
        have h1 := getD_nn (by omega) a2 s
        have h2 := getD_nn (by omega) b2 s
        exact addL_getD (by omega) (by omega) h1.1 (by omega) h2.1 (by omega)
      refine ⟨?_, fun x hx => ?_, fun s hs h => ?_⟩
      · rw [addL_sum _ _ (by omega) (fun x hx => by have := a2 x hx; omega) (fun x hx => by have := b2 x hx; omega), a1, b1]; omega
      · obtain ⟨s, hs, rfl⟩ := mem_getD.1 hx
        rw [addL_len (by omega)] at hs
        rw [g s (by omega)]
        have h1 := getD_nn (by omega) a2 s
        have h2 := getD_nn (by omega) b2 s
        omega
      · rw [g s hs] at h
        by_cases c : X.getD s 0 = 0
        · exact .inr (.inl (b3 s hs (by omega)))
        · exact .inl (a3 s hs c)
    · rw [if_neg c2]
      obtain ⟨a1, a2, a3⟩ := splitL_ok (best_wins (v := v1) (hi := true) hw c1) hF ha
      exact ⟨a1, a2, fun s hs h => .inl (a3 s hs h)⟩
  · rw [if_neg c1]
    by_cases c2 : 0 < (bestL false v2 w).length
    · rw [if_pos c2]
      obtain ⟨a1, a2, a3⟩ := splitL_ok (best_wins (v := v2) (hi := false) hw c2) hF ha
      exact ⟨a1, a2, fun s hs h => .inr (.inl (a3 s hs h))⟩
    · rw [if_neg c2]
      obtain ⟨a1, a2, a3⟩ := splitL_ok hw hF ha
      exact ⟨a1, a2, fun s hs h => .inr (.inr ⟨by omega, by omega, a3 s hs h⟩)⟩

/-- The amounts of the first pots; and those of the pots that a seat can win. -/
def amtS (ps : List (Int × List Int × Unit)) (i : Nat) : Int := ((ps.take i).map (·.1)).sum

def ownS (ps : List (Int × List Int × Unit)) (s : Int) (i : Nat) : Int := ((ps.take i).map fun q => if s ∈ q.2.1 then q.1 else 0).sum

theorem amtS_succ {ps : List (Int × List Int × Unit)} {i : Nat} (h : i < ps.length) : amtS ps (i + 1) = amtS ps i + ps[i].1 := by
  unfold amtS; rw [← List.take_append_getElem h, List.map_append, List.sum_append]; simp

theorem ownS_succ {ps : List (Int × List Int × Unit)} {s : Int} {i : Nat} (h : i < ps.length) : ownS ps s (i + 1) = ownS ps s i + (if s ∈ ps[i].2.1 then ps[i].1 else 0) := by
  unfold ownS; rw [← List.take_append_getElem h, List.map_append, List.sum_append]; simp

theorem awRun_ok {ps : List (Int × List Int × Unit)} {v1 v2 : List Int} {S F : Nat} (hps : potsC ps S = true) (hF : F < S) : ∀ i, i ≤ ps.length → i ≤ 1000000 → (awRun ps v1 v2 S F i).sum = amtS ps i ∧ 0 ≤ amtS ps i ∧ amtS ps i ≤ 1073741824 * (i : Int) ∧ ∀ s, s < S → 0 ≤ (awRun ps v1 v2 S F i).getD s 0 ∧ (awRun ps v1 v2 S F i).getD s 0 ≤ ownS ps (s : Int) i ∧ ownS ps (s : Int) i ≤ amtS ps i
  | 0, _, _ => by
    refine ⟨?_, by simp [amtS], by simp [amtS], fun s hs => ?_⟩
    · simp only [awRun, amtS, List.take_zero, List.foldl_nil, List.map_nil, List.sum_nil]
      exact sum_zero _ (fun j hj => by rw [getD_lt hj]; simp)
    · simp only [awRun, ownS, amtS, List.take_zero, List.foldl_nil, List.map_nil, List.sum_nil]
      rw [getD_lt (by simpa using hs)]; simp
  | i + 1, hi, h6 => by
    obtain ⟨g1, g0, g2, g3⟩ := awRun_ok (v1 := v1) (v2 := v2) hps hF i (by omega) (by omega)
    have h : i < ps.length := by omega
    have hp := List.all_eq_true.1 hps ps[i] (List.getElem_mem h)
    simp only [Bool.and_eq_true] at hp
    have ha := inB_iff.1 hp.2
    obtain ⟨a1, a2, a3⟩ := awardL_ok (v1 := v1) (v2 := v2) hp.1 hF ha.1 ha.2
    have l1 := awRun_len ps v1 v2 S F i
    have l2 := awardL_len ps[i].1 ps[i].2.1 v1 v2 S F
    rw [awRun_succ h, awStep_eq l1, amtS_succ h]
    generalize awRun ps v1 v2 S F i = Y at *
    generalize awardL ps[i].1 ps[i].2.1 v1 v2 S F = X at *
    have hY : ∀ x ∈ Y, 0 ≤ x ∧ x ≤ 2^60 := by
      intro x hx
      obtain ⟨s, hs, rfl⟩ := mem_getD.1 hx
      have := g3 s (by omega)
      omega
    refine ⟨?_, by omega, by omega, fun s hs => ?_⟩
    · rw [addL_sum _ _ (by omega) hY (fun x hx => by have := a2 x hx; omega), g1, a1]
    · have q1 := g3 s hs
      have q2 := getD_nn (by omega) a2 s
      rw [addL_getD (by omega) (by omega) q1.1 (by omega) q2.1 (by omega), ownS_succ h]
      by_cases c : X.getD s 0 = 0
      · rw [c]; split <;> omega
      · rw [if_pos (a3 s hs c).mem]; omega

theorem seed_DrawSettleHand {R : Type} {k : Nat} (K : 2^42 ≤ k) {z : List Int} (hz : ∀ i, i < z.length → 0 ≤ z.getD i 0 ∧ z.getD i 0 < 256) (hl : z.length ≤ 2^40) : ∃ w, (∀ kx, spec_DrawSettleHand.i1001_l3 (R := R) k k (z, (0 : Int), z, (0 : Int), (45007 : Int)) kx = kx w) ∧ ∃ b, w = (z, 0, b) ∧ Src z 0 b := by
  refine loop_exk (L := fun n v kx => spec_DrawSettleHand.i1001_l3 (R := R) k n v kx) (S := fun rec kx v => spec_DrawSettleHand.i1001_s3 k rec kx v) (fun _ _ _ => rfl) (fun v => ∃ (i : Nat) (b : Int), v = (z, (i : Int), z, 0, b) ∧ Src z 0 b) (fun v => z.length - v.2.1.toNat) (fun w => ∃ b, w = (z, 0, b) ∧ Src z 0 b) ?_ k _ ⟨0, 45007, rfl, hz, hl, by omega, by omega, by omega, by omega⟩ (by simp only [Int.toNat_zero]; omega)
  rintro _ ⟨i, b, rfl, hs⟩
  unfold spec_DrawSettleHand.i1001_s3
  by_cases h : i < z.length
  · by_cases h' : (i : Int) < 64
    · right
      have hzi := hz i h
      obtain ⟨h1, h2, h3, h4, h5, h6⟩ := hs
      have d1 : decide ((2147483647 : Int) = 0) = false := by decide
      have w1 : IntKind.wrap .i64 (b * 61) = b * 61 := wrap_id (by omega) (by omega)
      have w2 : IntKind.wrap .i64 (z.getD i 0) = z.getD i 0 := wrap_id (by omega) (by omega)
      have w3 : IntKind.wrap .i64 (b * 61 + z.getD i 0) = b * 61 + z.getD i 0 := wrap_id (by omega) (by omega)
      have hb := tmod_in (x := b * 61 + z.getD i 0) (n := 2147483647) (by omega) (by omega)
      refine ⟨(z, ((i : Int) + 1), z, 0, Int.tmod (b * 61 + z.getD i 0) 2147483647), ⟨i + 1, _, rfl, h1, h2, h3, h4, hb.1, hb.2⟩, by simp only [Int.toNat_natCast]; omega, fun rec kx => ?_⟩
      simp only [ltD h, decide_eq_true h', nn, Bool.and_self, cond_true, Int.toNat_natCast, d1, Bool.not_false, w1, w2, w3, wrap_succ (show i < 2^62 by omega)]
    · left
      exact ⟨(z, 0, b), fun rec kx => by simp only [ltD h, decide_eq_false h', cond_true, cond_false], b, rfl, hs⟩
  · left
    have c0 : decide ((i : Int) < (z.length : Int)) = false := by simp; omega
    exact ⟨(z, 0, b), fun rec kx => by simp only [c0, cond_false], b, rfl, hs⟩

theorem seed_DrawNetResult {R : Type} {k : Nat} (K : 2^42 ≤ k) {z : List Int} (hz : ∀ i, i < z.length → 0 ≤ z.getD i 0 ∧ z.getD i 0 < 256) (hl : z.length ≤ 2^40) : ∃ w, (∀ kx, spec_DrawNetResult.i1001_l3 (R := R) k k (z, (0 : Int), z, z, (0 : Int), (45007 : Int)) kx = kx w) ∧ ∃ b, w = (z, z, 0, b) ∧ Src z 0 b := by
  refine loop_exk (L := fun n v kx => spec_DrawNetResult.i1001_l3 (R := R) k n v kx) (S := fun rec kx v => spec_DrawNetResult.i1001_s3 k rec kx v) (fun _ _ _ => rfl) (fun v => ∃ (i : Nat) (b : Int), v = (z, (i : Int), z, z, 0, b) ∧ Src z 0 b) (fun v => z.length - v.2.1.toNat) (fun w => ∃ b, w = (z, z, 0, b) ∧ Src z 0 b) ?_ k _ ⟨0, 45007, rfl, hz, hl, by omega, by omega, by omega, by omega⟩ (by simp only [Int.toNat_zero]; omega)
  rintro _ ⟨i, b, rfl, hs⟩
  unfold spec_DrawNetResult.i1001_s3
  by_cases h : i < z.length
  · by_cases h' : (i : Int) < 64
    · right
      have hzi := hz i h
      obtain ⟨h1, h2, h3, h4, h5, h6⟩ := hs
      have d1 : decide ((2147483647 : Int) = 0) = false := by decide
      have w1 : IntKind.wrap .i64 (b * 61) = b * 61 := wrap_id (by omega) (by omega)
      have w2 : IntKind.wrap .i64 (z.getD i 0) = z.getD i 0 := wrap_id (by omega) (by omega)
      have w3 : IntKind.wrap .i64 (b * 61 + z.getD i 0) = b * 61 + z.getD i 0 := wrap_id (by omega) (by omega)
      have hb := tmod_in (x := b * 61 + z.getD i 0) (n := 2147483647) (by omega) (by omega)
      refine ⟨(z, ((i : Int) + 1), z, z, 0, Int.tmod (b * 61 + z.getD i 0) 2147483647), ⟨i + 1, _, rfl, h1, h2, h3, h4, hb.1, hb.2⟩, by simp only [Int.toNat_natCast]; omega, fun rec kx => ?_⟩
      simp only [ltD h, decide_eq_true h', nn, Bool.and_self, cond_true, Int.toNat_natCast, d1, Bool.not_false, w1, w2, w3, wrap_succ (show i < 2^62 by omega)]
    · left
      exact ⟨(z, z, 0, b), fun rec kx => by simp only [ltD h, decide_eq_false h', cond_true, cond_false], b, rfl, hs⟩
  · left
    have c0 : decide ((i : Int) < (z.length : Int)) = false := by simp; omega
    exact ⟨(z, z, 0, b), fun rec kx => by simp only [c0, cond_false], b, rfl, hs⟩

theorem drawV100_ok {R : Type} {k : Nat} (K : 2^42 ≤ k) {z : List Int} {a b : Int} (hs : Src z a b) {S : Nat} (hS : S ≤ 100) : ∃ w, (∀ kx, spec_l13DrawValues.l3 (R := R) k k ((S : Int), (0 : Int), z, a, b, ([] : List Int)) kx = kx w) ∧ ∃ c d y, w = (z, c, d, y) ∧ y.length ≤ S ∧ Src z c d := by
  refine loop_exk (L := fun n v kx => spec_l13DrawValues.l3 (R := R) k n v kx) (S := fun rec kx v => spec_l13DrawValues.s3 k rec kx v) (fun _ _ _ => rfl) (fun v => ∃ (i : Nat) (a b : Int) (y : List Int), i ≤ S ∧ v = ((S : Int), (i : Int), z, a, b, y) ∧ y.length ≤ i ∧ Src z a b) (fun v => S - v.2.1.toNat) (fun w => ∃ c d y, w = (z, c, d, y) ∧ y.length ≤ S ∧ Src z c d) ?_ k _ ⟨0, a, b, [], Nat.zero_le _, rfl, by simp, hs⟩ (by simp only [Int.toNat_zero]; omega)
  rintro _ ⟨i, a, b, y, hi, rfl, h1, hs⟩
  unfold spec_l13DrawValues.s3
  by_cases h : i < S
  · right
    obtain ⟨r, c, d, e1, _, _, s1⟩ := next_ok (k := k) hs (n := 4) (by omega)
    have m1 : decide ((y.length + [IntKind.wrap .i64 (r - 1)].length) * 8 ≤ AM.maxBytes) = true := room (by simp; omega) (by omega)
    refine ⟨((S : Int), ((i : Int) + 1), z, c, d, y ++ [IntKind.wrap .i64 (r - 1)]), ⟨i + 1, c, d, _, h, rfl, by simp; omega, s1⟩, by simp only [Int.toNat_natCast]; omega, fun rec kx => ?_⟩
    simp only [ltD h, cond_true, e1, m1, Option.bind_some, wrap_succ (show i < 2^62 by omega)]
  · left
    have c0 : decide ((i : Int) < (S : Int)) = false := by simp; omega
    exact ⟨(z, a, b, y), fun rec kx => by simp only [c0, cond_false], a, b, y, rfl, by omega, hs⟩

theorem l13DrawValues100_ok {k : Nat} (K : 2^42 ≤ k) {z : List Int} {a b : Int} (hs : Src z a b) {S : Nat} (hS : S ≤ 100) : ∃ (y : List Int) (c d : Int), spec_l13DrawValues.f k (z, (a, (b, ()))) (S : Int) = some ((y, ()), ((z, (c, (d, ()))), ())) ∧ y.length ≤ 200 ∧ Src z c d := by
  unfold spec_l13DrawValues.f
  obtain ⟨w, e, c, d, y, rfl, hy, s⟩ := drawV100_ok (R := (List Int × Unit) × (List Int × Int × Int × Unit) × Unit) K hs hS
  obtain ⟨r2, c2, d2, e2, _, _, s2⟩ := next_ok (k := k) s (n := 24) (by omega)
  have m0 : decide ((y.length + ([(0 : Int)] : List Int).length) * 8 ≤ AM.maxBytes) = true := room (by simp; omega) (by omega)
  simp only [e, e2, Option.bind_some, m0]
  cases (r2 == 0) with
  | true => exact ⟨_, _, _, rfl, by first | omega | (simp; omega), s2⟩
  | false =>
    simp only [cond_false]
    cases (r2 == 1) with
    | true =>
      simp only [cond_true]
      by_cases h : 0 < y.length
      · have h' : decide ((0 : Int) < (y.length : Int)) = true := by simp; omega
        simp only [gt0 h, h', decide_eq_true h, Int.le_refl, decide_true, Bool.and_self, cond_true]
        exact ⟨_, _, _, rfl, by first | omega | (simp; omega), s2⟩
      · simp only [not_gt0 h, cond_false]
        exact ⟨_, _, _, rfl, by omega, s2⟩
    | false => exact ⟨_, _, _, rfl, by omega, s2⟩

theorem DrawSettleHand_ok {k : Nat} (K : 2^42 ≤ k) {z : List Int} (hz : ∀ i, i < z.length → 0 ≤ z.getD i 0 ∧ z.getD i 0 < 256) (hl : z.length ≤ 2^40) : ∃ (p : List Int) (m : List Bool) (v1 v2 : List Int) (f : Int), spec_DrawSettleHand.f k z = some ((p, (m, (v1, (v2, (f, ()))))), ()) ∧ p.length ≤ 100 ∧ m.length ≤ 100 ∧ v1.length ≤ 200 ∧ v2.length ≤ 200 := by
  unfold spec_DrawSettleHand.f
  obtain ⟨w, e, b, rfl, hs⟩ := seed_DrawSettleHand (R := (List Int × List Bool × List Int × List Int × Int × Unit) × Unit) K hz hl
  obtain ⟨p, m, c, d, e1, hp, hm, s1⟩ := l12Draw_ok K hs
  obtain ⟨v1, c2, d2, e2, hv1, s2⟩ := l13DrawValues100_ok K s1 hp
  obtain ⟨v2, c3, d3, e3, hv2, s3⟩ := l13DrawValues100_ok K s2 hp
  obtain ⟨r4, c4, d4, e4, _, _, s4⟩ := next_ok (k := k) s3 (n := (p.length : Int)) (by omega)
  simp only [e, e1, e2, e3, e4, Option.bind_some]
  exact ⟨p, m, v1, v2, _, rfl, hp, hm, by omega, by omega⟩

theorem l02Pick_ok {k : Nat} (K : 2^42 ≤ k) {z : List Int} {a b : Int} (hs : Src z a b) {l : List Int} (hl : l.length ≤ 1000) : ∃ (y : List Int) (c d : Int), spec_l02Pick.f k (z, (a, (b, ()))) l = some ((y, ()), ((z, (c, (d, ()))), ())) ∧ y.length = l.length := by
  unfold spec_l02Pick.f
  obtain ⟨w, e, c, d, y, rfl, hy⟩ : ∃ w, (∀ kx, spec_l02Pick.l3 (R := (List Int × Unit) × (List Int × Int × Int × Unit) × Unit) k k (l, (0 : Int), z, a, b, ([] : List Int)) kx = kx w) ∧ ∃ c d y, w = (z, c, d, y) ∧ y.length = l.length := by
    refine loop_exk (L := fun n v kx => spec_l02Pick.l3 (R := (List Int × Unit) × (List Int × Int × Int × Unit) × Unit) k n v kx) (S := fun rec kx v => spec_l02Pick.s3 k rec kx v) (fun _ _ _ => rfl) (fun v => ∃ (i : Nat) (a b : Int) (y : List Int), i ≤ l.length ∧ v = (l, (i : Int), z, a, b, y) ∧ y.length = i ∧ Src z a b) (fun v => l.length - v.2.1.toNat) (fun w => ∃ c d y, w = (z, c, d, y) ∧ y.length = l.length) ?_ k _ ⟨0, a, b, [], Nat.zero_le _, rfl, rfl, hs⟩ (by simp only [Int.toNat_zero]; omega)
    rintro _ ⟨i, a, b, y, hi, rfl, h1, hs⟩
    unfold spec_l02Pick.s3
    by_cases h : i < l.length
    · right
      have w1 : IntKind.wrap .i64 ((y.length : Int) + 1) = (y.length : Int) + 1 := wrap_id (by omega) (by omega)
      obtain ⟨r, c, d, e1, g1, g2, s1⟩ := next_ok (k := k) hs (n := (y.length : Int) + 1) (by omega)
      obtain ⟨q, rfl⟩ := Int.eq_ofNat_of_zero_le g1
      have hq : q ≤ y.length := by omega
      have m1 : decide ((([] : List Int).length + ((y.drop 0).take (q - 0)).length) * 8 ≤ AM.maxBytes) = true := room (by simp; omega) (by omega)
      have m2 : decide (((([] : List Int) ++ (y.drop 0).take (q - 0)).length + [l.getD i 0].length) * 8 ≤ AM.maxBytes) = true := room (by simp; omega) (by omega)
      have m3 : decide ((((([] : List Int) ++ (y.drop 0).take (q - 0)) ++ [l.getD i 0]).length + ((y.drop q).take (y.length - q)).length) * 8 ≤ AM.maxBytes) = true := room (by simp; omega) (by omega)
      have c0 : decide ((q : Int) ≤ (y.length : Int)) = true := by simp; omega
      refine ⟨(l, ((i : Int) + 1), z, c, d, (([] ++ ((y.drop 0).take (q - 0))) ++ [l.getD i 0]) ++ ((y.drop q).take (y.length - q))), ⟨i + 1, c, d, _, h, rfl, by simp; omega, s1⟩, by simp only [Int.toNat_natCast]; omega, fun rec kx => ?_⟩
      simp only [ltD h, nn, Bool.and_self, cond_true, w1, e1, Option.bind_some, c0, Int.le_refl, decide_true, Int.toNat_natCast, m1, m2, m3, wrap_succ (show i < 2^62 by omega)]
    · left
      have c0 : decide ((i : Int) < (l.length : Int)) = false := by simp; omega
      exact ⟨(z, a, b, y), fun rec kx => by simp only [c0, cond_false], a, b, y, rfl, by omega⟩
  simp only [e]
  exact ⟨y, c, d, rfl, hy⟩

/-- What SettleHand returns, and what it is made of. -/
theorem settle_more {k : Nat} (K : 2^42 ≤ k) {a0 : List Int} {a1 : List Bool} {a2 a3 : List Int} {a4 : Int} (hl : a0.length ≤ 2^40) (h2 : a2.length ≤ 2^40) (h3 : a3.length ≤ 2^40) : ∃ (o : List Int) (c : Int), o.length ≤ 2^40 ∧ spec_SettleHand.f k a0 a1 a2 a3 a4 = some ((o, c, ()), ()) ∧ impl_SettleHand.f k a0 a1 a2 a3 a4 = some ((o, c, ()), ()) ∧ (c = 0 → pays a0 a1 = true ∧ a2.length = a0.length ∧ ∃ (b : Nat) (L : List Int) (F j : Nat), IsBest a0 a0.length b ∧ Pay (refL a0 b) ∧ Lv L (refL a0 b) a1 ∧ F < a0.length ∧ (uncR a0 b).1 = (j : Int) ∧ j < a0.length ∧ o = (awRun (potsF (refL a0 b) a1 L) a2 a3 a2.length F (potsF (refL a0 b) a1 L).length).set j (IntKind.wrap .i64 ((awRun (potsF (refL a0 b) a1 L) a2 a3 a2.length F (potsF (refL a0 b) a1 L).length).getD j 0 + (uncR a0 b).2))) := by
  unfold spec_SettleHand.f impl_SettleHand.f
  have hw : IntKind.wrap .i64 ((a0.length : Int) - 1) = (a0.length : Int) - 1 := wrap_id (by omega) (by omega)
  simp only [sArePayments_eq K hl, iArePayments_eq K hl, Option.bind_some, l13Values_eq K h2, l13Values_eq K h3, areValues_eq K h2, areValues_eq K h3, l01In_eq, within_eq, hw]
  cases hp : pays a0 a1 with
  | false => exact ⟨[], 1, by simp, rfl, rfl, fun h => by omega⟩
  | true =>
    have hlen := pays_len hp
    simp only [Bool.not_true, cond_false]
    by_cases c2 : a2.length = a0.length
    · by_cases c3 : a3.length = a0.length
      · have b2 : ((a2.length : Int) == (a0.length : Int)) = true := by rw [beq_iff_eq]; omega
        have b3 : ((a3.length : Int) == (a0.length : Int)) = true := by rw [beq_iff_eq]; omega
        have b2' : ((a2.length : Int) != (a0.length : Int)) = false := by rw [bne_eq_false_iff_eq]; omega
        have b3' : ((a3.length : Int) != (a0.length : Int)) = false := by rw [bne_eq_false_iff_eq]; omega
        simp only [b2, b3, b2', b3', cond_false, Bool.and_true]
        cases d2 : valsB a2 with
        | false => exact ⟨[], 2, by simp, rfl, by cases inB 0 ((a0.length : Int) - 1) a4 <;> rfl, fun h => by omega⟩
        | true =>
          cases d3 : valsB a3 with
          | false => exact ⟨[], 2, by simp, rfl, by cases inB 0 ((a0.length : Int) - 1) a4 <;> rfl, fun h => by omega⟩
          | true =>
            cases d4 : inB 0 ((a0.length : Int) - 1) a4 with
            | false => exact ⟨[], 2, by simp, rfl, rfl, fun h => by omega⟩
            | true =>
              have hf := inB_iff.1 d4
              obtain ⟨F, rfl⟩ := Int.eq_ofNat_of_zero_le hf.1
              obtain ⟨b, L, hb, hpay, hL, hrl, e1, e2, e3⟩ := pots_both0 K hp
              have hsz := potsF_sz (show (refL a0 b).length ≤ 6 by omega) hpay hL
              have hC := potsF_C (show (refL a0 b).length ≤ 6 by omega) hpay hL
              rw [hrl, ← c2] at hC
              have hr := awRun_len (potsF (refL a0 b) a1 L) a2 a3 a2.length F (potsF (refL a0 b) a1 L).length
              have s := sAll_eq K hC hsz.1 hsz.2 (show a3.length = a2.length by omega) (by omega) (by omega) (show F < 2^40 by omega)
              have t := iAwardedC_eq K hC hsz.1 hsz.2 (show a3.length = a2.length by omega) (by omega) (by omega) (show F < 2^40 by omega)
              obtain ⟨j, hj, hjl⟩ := uncR_seat hb
              have fin : ∀ o : List Int, o = awRun (potsF (refL a0 b) a1 L) a2 a3 a2.length F (potsF (refL a0 b) a1 L).length → (true = true ∧ a2.length = a0.length ∧ ∃ (b : Nat) (L : List Int) (F j : Nat), IsBest a0 a0.length b ∧ Pay (refL a0 b) ∧ Lv L (refL a0 b) a1 ∧ F < a0.length ∧ (uncR a0 b).1 = (j : Int) ∧ j < a0.length ∧ o.set j (IntKind.wrap .i64 (o.getD j 0 + (uncR a0 b).2)) = (awRun (potsF (refL a0 b) a1 L) a2 a3 a2.length F (potsF (refL a0 b) a1 L).length).set j (IntKind.wrap .i64 ((awRun (potsF (refL a0 b) a1 L) a2 a3 a2.length F (potsF (refL a0 b) a1 L).length).getD j 0 + (uncR a0 b).2))) → True := fun _ _ _ => trivial
              have hjo : j < (awRun (potsF (refL a0 b) a1 L) a2 a3 a2.length F (potsF (refL a0 b) a1 L).length).length := by omega
              unfold spec_l13Settle.f
              simp only [Bool.not_true, cond_false, e1, e2, e3, s, t, sUncalled_eq K hl hb, iUncalled_eq K hl hb, Option.bind_some, hj, nn, ltD hjo, Bool.and_self, cond_true, Int.toNat_natCast, decide_eq_true hjo]
              exact ⟨_, 0, by simp; omega, rfl, rfl, fun _ => ⟨trivial, c2, b, L, F, j, hb, hpay, hL, by omega, hj, hjl, rfl⟩⟩
      · have b3 : ((a3.length : Int) == (a0.length : Int)) = false := by rw [beq_eq_false_iff_ne]; omega
        have b3' : ((a3.length : Int) != (a0.length : Int)) = true := by rw [bne_iff_ne]; omega
        simp only [b3, b3', Bool.and_false, Bool.not_false, cond_true]
        exact ⟨[], 2, by simp, by cases (valsB a2 && (a2.length : Int) == (a0.length : Int)) <;> rfl, by cases inB 0 ((a0.length : Int) - 1) a4 <;> cases ((a2.length : Int) != (a0.length : Int)) <;> rfl, fun h => by omega⟩
    · have b2 : ((a2.length : Int) == (a0.length : Int)) = false := by rw [beq_eq_false_iff_ne]; omega
      have b2' : ((a2.length : Int) != (a0.length : Int)) = true := by rw [bne_iff_ne]; omega
      simp only [b2, b2', Bool.and_false, Bool.not_false, cond_true]
      exact ⟨[], 2, by simp, rfl, by cases inB 0 ((a0.length : Int) - 1) a4 <;> rfl, fun h => by omega⟩

theorem DrawNetResult_ok {k : Nat} (K : 2^42 ≤ k) {z : List Int} (hz : ∀ i, i < z.length → 0 ≤ z.getD i 0 ∧ z.getD i 0 < 256) (hl : z.length ≤ 2^40) : ∃ (p a : List Int), spec_DrawNetResult.f k z = some ((p, (a, ())), ()) ∧ p.length ≤ 2^40 ∧ a.length ≤ 2^40 := by
  unfold spec_DrawNetResult.f
  obtain ⟨w, e, b, rfl, hs⟩ := seed_DrawNetResult (R := (List Int × List Int × Unit) × Unit) K hz hl
  obtain ⟨p, m, v1, v2, f, e1, hp, hm, hv1, hv2⟩ := DrawSettleHand_ok K hz hl
  obtain ⟨o, c, ho, e2, _, _⟩ := settle_more K (a1 := m) (a4 := f) (show p.length ≤ 2^40 by omega) (show v1.length ≤ 2^40 by omega) (show v2.length ≤ 2^40 by omega)
  have e3 := l01Own_eq (k := k) (show p.length ≤ 2^40 by omega)
  simp only [e, e1, e2, e3, Option.bind_some]
  cases (c != 0) with
  | true =>
    obtain ⟨r4, c4, d4, e4, _, _, s4⟩ := next_ok (k := k) hs (n := 3) (by omega)
    have m1 : decide ((p.length + [r4].length) * 8 ≤ AM.maxBytes) = true := room (by simp; omega) (by omega)
    obtain ⟨y, c5, d5, e5, hy⟩ := l02Pick_ok K s4 (l := p ++ [r4]) (by simp; omega)
    have hy' : y.length = p.length + 1 := by simpa using hy
    have c6 : decide ((p.length : Int) ≤ (y.length : Int)) = true := by simp; omega
    simp only [cond_true, e4, m1, e5, c6, nn, Int.le_refl, decide_true, Bool.and_self, Option.bind_some]
    exact ⟨_, _, rfl, by omega, by simp; omega⟩
  | false =>
    obtain ⟨r4, c4, d4, e4, _, _, s4⟩ := next_ok (k := k) hs (n := 5) (by omega)
    simp only [cond_false, e4, Option.bind_some]
    cases (r4 == 0) with
    | true =>
      obtain ⟨r5, c5, d5, e5, _, _, s5⟩ := next_ok (k := k) s4 (n := 3) (by omega)
      have m1 : decide ((p.length + [r5].length) * 8 ≤ AM.maxBytes) = true := room (by simp; omega) (by omega)
      obtain ⟨y, c6, d6, e6, hy⟩ := l02Pick_ok K s5 (l := p ++ [r5]) (by simp; omega)
      have hy' : y.length = p.length + 1 := by simpa using hy
      have c7 : decide ((p.length : Int) ≤ (y.length : Int)) = true := by simp; omega
      simp only [cond_true, e5, m1, e6, c7, nn, Int.le_refl, decide_true, Bool.and_self, Option.bind_some]
      exact ⟨_, _, rfl, by omega, by simp; omega⟩
    | false => exact ⟨_, _, rfl, by omega, ho⟩

theorem netOf_sum : ∀ (p a : List Int), p.length = a.length → (netOf p a).sum = a.sum - p.sum
  | [], a, h => by
    have : a = [] := List.eq_nil_of_length_eq_zero (by simpa using h.symm)
    subst this; rfl
  | x :: p, [], h => by simp at h
  | x :: p, y :: a, h => by
    have ih := netOf_sum p a (by simpa using h)
    have : netOf (x :: p) (y :: a) = (y - x) :: netOf p a := rfl
    rw [this, List.sum_cons, List.sum_cons, List.sum_cons, ih]
    omega

theorem net_sum {k : Nat} (K : 2^42 ≤ k) {p a : List Int} (h : (NetR p a).2 = 0) : laws_sum.f k (NetR p a).1 = some ((0, ()), ()) := by
  unfold NetR at *
  by_cases c1 : p.length ≤ 6 ∧ p.all (inB 0 600000) = true ∧ a.all (inB 0 600000) = true ∧ p.length = a.length
  · rw [if_pos c1] at h ⊢
    by_cases c2 : p.sum = a.sum
    · rw [if_pos c2]
      have hn : (netOf p a).length = p.length := by simp [netOf]; omega
      have hp := all_inB c1.2.1
      have ha := all_inB c1.2.2.1
      rw [sum_eq K (by simp only; omega) (fun j hj => by
        simp only at hj
        have h1 := hp (p.getD j 0) (mem_getD.2 ⟨j, by omega, rfl⟩)
        have h2 := ha (a.getD j 0) (mem_getD.2 ⟨j, by omega, rfl⟩)
        have : (netOf p a).getD j 0 = a.getD j 0 - p.getD j 0 := by
          rw [getD_lt hj, getD_lt (by omega), getD_lt (by omega)]
          simp [netOf]
        rw [this]
        omega)]
      simp only
      rw [netOf_sum p a c1.2.2.2, c2, Int.sub_self]
    · rw [if_neg c2] at h; simp at h
  · rw [if_neg c1] at h; simp at h

theorem shRun_own {P : List (Int × List Int × Unit)} {x : Int} (hb : ∀ i, i ≤ P.length → 0 ≤ ownS P x i ∧ ownS P x i ≤ 2^60) : ∀ i, i ≤ P.length → shRun P x i = ownS P x i
  | 0, _ => by simp [shRun, ownS]
  | i + 1, h => by
    have ih := shRun_own hb i (by omega)
    have h1 := hb (i + 1) h
    rw [ownS_succ (by omega)] at h1
    rw [shRun_succ (by omega), ownS_succ (by omega), ih]
    split
    · rename_i c
      rw [if_pos c] at h1
      exact wrap_id (by omega) (by omega)
    · omega

theorem amtS_tot {p L : List Int} {m : List Bool} : ∀ i, i ≤ (potsF p m L).length → amtS (potsF p m L) i = totP p m L i
  | 0, _ => by simp [amtS, totP]
  | i + 1, h => by
    rw [amtS_succ (by omega), totP_succ, amtS_tot i (by omega), pots_mem (b := 0) i (by omega)]

theorem FnSettled_ok (a0 : List Int) {U : Prop} (w0 : U ∧ ∀ x ∈ a0, (decide (IntKind.min .u8 ≤ x) && decide (x ≤ IntKind.max .u8)) = true) : laws_FnSettled.f (2^42) a0 = some ((true, ()), ()) := by
  unfold laws_FnSettled.f laws_big.f
  have K : 2^42 ≤ 2^42 := Nat.le_refl _
  by_cases hb : (a0.length : Int) > 4096
  · simp only [decide_eq_true hb, Option.bind_some, cond_true]
  obtain ⟨p, m, v1, v2, f, e1, hp1, hm1, hv1, hv2⟩ := DrawSettleHand_ok K (seed_bytes w0.2) (by omega)
  obtain ⟨q, a, e2, hq, ha⟩ := DrawNetResult_ok K (seed_bytes w0.2) (by omega)
  obtain ⟨o, c, ho, f1, f2, hc⟩ := settle_more K (a1 := m) (a4 := f) (show p.length ≤ 2^40 by omega) (show v1.length ≤ 2^40 by omega) (show v2.length ≤ 2^40 by omega)
  have hnl := NetR_len q a
  simp only [decide_eq_false hb, Option.bind_some, cond_false, e1, e2, f1, f2, sNetResult_eq K hq ha, iNetResult_eq K hq ha, bne_self_eq_false, likeInts_self K ho, likeInts_self K hnl, Bool.not_true]
  have tail : (bif (c != (0 : Int)) then (some ((true, ()), ()) : Option ((Bool × Unit) × Unit)) else ((impl_UncalledOf.f (2^42) p m).bind fun r11 => (laws_FnSettled.l15 (2^42) (2^42) (p, r11.1.1, r11.1.2.1, r11.1.2.2.1, (0 : Int), m, o) (fun x => (bif (x.2.1 == (0 : Int)) then ((laws_sum.f (2^42) x.2.2).bind fun r16 => ((laws_sum.f (2^42) x.1).bind fun r17 => (some (((r16.1.1 == r17.1.1), ()), ())))) else (some ((false, ()), ())))) (fun x => (some ((x.1, ()), ())))))) = some ((true, ()), ()) := by
    by_cases hc0 : c = 0
    · obtain ⟨hp, hv, b, L, F, j, hbest, hpay, hL, hF, hj, hjl, hoe⟩ := hc hc0
      subst hc0
      have hlen := pays_len hp
      have hrl : (refL p b).length = p.length := by simp [refL]
      have hbk := back_in hlen.2.2.1 hbest
      have hsz := potsF_sz (show (refL p b).length ≤ 6 by omega) hpay hL
      have hC := potsF_C (show (refL p b).length ≤ 6 by omega) hpay hL
      have hLl := hL.len hpay
      have hPlen : (potsF (refL p b) m L).length = L.length := potsI_len _ _ _ _ _
      obtain ⟨ht1, ht2⟩ := pots_sum hp hbest hL
      have hrs : 0 ≤ (refL p b).sum ∧ (refL p b).sum ≤ 600000 * ((refL p b).length : Int) := sum_le (by omega) (fun x hx => by
        obtain ⟨t, ht, rfl⟩ := mem_getD.1 hx; exact hpay t ht)
      rw [hrl] at hC
      have hat := amtS_tot (p := refL p b) (m := m) (L := L) (potsF (refL p b) m L).length (Nat.le_refl _)
      rw [hPlen, ht2] at hat
      have hrun := fun i h => awRun_ok (v1 := v1) (v2 := v2) hC hF i h (by omega)
      obtain ⟨q1, q2, q3, q4⟩ := hrun (potsF (refL p b) m L).length (Nat.le_refl _)
      have hshare : ∀ s : Nat, s < p.length → impl_ShareIn.f (2^42) p m (s : Int) = some ((ownS (potsF (refL p b) m L) (s : Int) (potsF (refL p b) m L).length, 0, ()), ()) := by
        intro s hs
        have hown := shRun_own (P := potsF (refL p b) m L) (x := (s : Int)) (fun i hi => by
          obtain ⟨_, r2, r3, r4⟩ := hrun i hi
          have := r4 s hs
          omega) _ (Nat.le_refl _)
        obtain ⟨b', L', hb', hpay', hL', hrl', g1, g2, g3⟩ := pots_both0 K hp
        have := hbest.uniq hb'
        subst this
        have := Strict.uniq hL.1 hL'.1 (fun x => (hL.2 x).trans (hL'.2 x).symm)
        subst this
        have hw : IntKind.wrap .i64 ((p.length : Int) - 1) = (p.length : Int) - 1 := wrap_id (by omega) (by omega)
        have hin : inB 0 ((p.length : Int) - 1) (s : Int) = true := inB_iff.2 (by omega)
        unfold impl_ShareIn.f
        simp only [iArePayments_eq K (show p.length ≤ 2^40 by omega), hp, g3, Option.bind_some, Bool.not_true, cond_false, within_eq, hw, hin, iShare_eq K hsz.1 hsz.2, hown]
      rw [hv] at hoe
      have hxl := awRun_len (potsF (refL p b) m L) v1 v2 p.length F (potsF (refL p b) m L).length
      generalize awRun (potsF (refL p b) m L) v1 v2 p.length F (potsF (refL p b) m L).length = X at *
      rw [hPlen] at q1 q2 q3 q4 hshare
      have hX : ∀ s, s < p.length → 0 ≤ X.getD s 0 ∧ X.getD s 0 ≤ 3600000 := by
        intro s hs
        have := q4 s hs
        omega
      have hXj := hX j hjl
      have hwj : IntKind.wrap .i64 (X.getD j 0 + (uncR p b).2) = X.getD j 0 + (uncR p b).2 := wrap_id (by omega) (by omega)
      rw [hwj] at hoe
      have hol : o.length = p.length := by rw [hoe]; simp; omega
      have hog : ∀ s, s < p.length → o.getD s 0 = if s = j then X.getD j 0 + (uncR p b).2 else X.getD s 0 := by
        intro s hs
        rw [hoe, set_getD (by omega)]
      have hosum : o.sum = p.sum := by
        rw [hoe, sum_set _ _ _ (by omega), q1, hat]; omega
      have hs1 : laws_sum.f (2^42) o = some ((p.sum, ()), ()) := by
        rw [sum_eq K (by omega) (fun s hs => by
          have := hog s (by omega)
          have := hX s (by omega)
          split at * <;> omega), hosum]
      have hs2 : laws_sum.f (2^42) p = some ((p.sum, ()), ()) := sum_eq K (by omega) (fun s hs => by
        have := all_inB hlen.2.2.1 (p.getD s 0) (mem_getD.2 ⟨s, hs, rfl⟩); omega)
      simp only [bne_self_eq_false, cond_false, iUncalledOf_eq K hp hbest, Option.bind_some, hj]
      refine laws_FnSettled.l15_for p.length (fun i x3 x18 x19 x20 y0 y1 => p = x3 ∧ (j : Int) = x18 ∧ (uncR p b).2 = x19 ∧ 0 = x20 ∧ m = y0 ∧ o = y1) (fun _ _ _ _ _ _ _ => some ((true, ()), ())) ?_ (2^42) 0 _ _ _ _ _ _ (Nat.zero_le _) ⟨rfl, rfl, rfl, rfl, rfl, rfl⟩ (by omega)
      rintro i _ _ _ _ _ _ rec hi ⟨rfl, rfl, rfl, rfl, rfl, rfl⟩ hrec
      unfold laws_FnSettled.s15
      by_cases h : i < p.length
      · have e := hrec _ _ _ _ _ _ h ⟨rfl, rfl, rfl, rfl, rfl, rfl⟩
        have h' : i < o.length := by omega
        have g1 := q4 i h
        have g2 := hX i h
        have g3 := hog i h
        simp only [ltD h', nn, Bool.and_self, cond_true, Int.toNat_natCast, decide_eq_true h', hshare i h, Option.bind_some, bne_self_eq_false, cond_false, wrap_succ (show i < 2^62 by omega)]
        by_cases d : i = j
        · have d' : ((i : Int) == (j : Int)) = true := by rw [beq_iff_eq]; omega
          rw [if_pos d] at g3
          subst d
          have hwo : IntKind.wrap .i64 (ownS (potsF (refL p b) m L) (i : Int) L.length + (uncR p b).2) = ownS (potsF (refL p b) m L) (i : Int) L.length + (uncR p b).2 := wrap_id (by omega) (by omega)
          have c1 : decide (o.getD i 0 > ownS (potsF (refL p b) m L) (i : Int) L.length + (uncR p b).2) = false := decide_eq_false (by omega)
          have c2 : decide (o.getD i 0 < 0) = false := decide_eq_false (by omega)
          simp only [d', cond_true, hwo, c1, c2, cond_false]
          exact e
        · have d' : ((i : Int) == (j : Int)) = false := by rw [beq_eq_false_iff_ne]; omega
          rw [if_neg d] at g3
          have c1 : decide (o.getD i 0 > ownS (potsF (refL p b) m L) (i : Int) L.length) = false := decide_eq_false (by omega)
          have c2 : decide (o.getD i 0 < 0) = false := decide_eq_false (by omega)
          simp only [d', cond_false, c1, c2]
          exact e
      · have c0 : decide ((i : Int) < (o.length : Int)) = false := by simp; omega
        simp only [c0, cond_false, beq_self_eq_true, cond_true, hs1, hs2, Option.bind_some]
    · have : (c != 0) = true := by rw [bne_iff_ne]; exact hc0
      rw [this]; rfl
  by_cases hn : (NetR q a).2 = 0
  · have hns := net_sum K hn
    simp only [hn, beq_self_eq_true, cond_true, hns, Option.bind_some, bne_self_eq_false, cond_false]
    exact tail
  · have : ((NetR q a).2 == 0) = false := by rw [beq_eq_false_iff_ne]; exact hn
    simp only [this, cond_false]
    exact tail
end Go.Sh
