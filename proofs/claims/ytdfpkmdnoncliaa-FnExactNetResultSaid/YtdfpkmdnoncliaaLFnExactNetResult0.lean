/- What the Lean functions compute, in plain lists and numbers; conditions stand in each lemma. -/
import Derived.Test.YtdfpkmdnoncliaaSFnExactNetResult0
set_option linter.unusedVariables false
set_option linter.unusedSimpArgs false
namespace Go.Sh
open Go
theorem l01In_eq (k : Nat) (a lo hi : Int) : spec_l01In.f k a lo hi = some ((inB lo hi a, ()), ()) := by
  unfold spec_l01In.f inB
  by_cases h : lo ≤ a <;> simp [h]

theorem within_eq (k : Nat) (a lo hi : Int) : impl_within.f k a lo hi = some ((inB lo hi a, ()), ()) := by
  unfold impl_within.f inB
  by_cases h : lo ≤ a <;> simp [h]

attribute [simp] l01In_eq within_eq

theorem l10Chips_eq {k : Nat} (K : 2^42 ≤ k) {l : List Int} (hl : l.length ≤ 2^40) (n : Int) : spec_l10Chips.f k l n = some ((l.all (inB 0 600000) && ((l.length : Int) == n), ()), ()) := by
  unfold spec_l10Chips.f
  refine (spec_l10Chips.l2_for l.length (fun _ x0 x1 => l = x0 ∧ n = x1) (fun i _ _ => some ((((l.drop i).all (inB 0 600000) && ((l.length : Int) == n)), ()), ())) ?_ k 0 l n (Nat.zero_le _) ⟨rfl, rfl⟩ (by omega)).trans (by simp)
  rintro i _ _ rec hi ⟨rfl, rfl⟩ hrec
  unfold spec_l10Chips.s2
  by_cases h : i < l.length
  · simp [h, wrap_succ (show i < 2^62 by omega), all_drop h, hrec _ _ h ⟨rfl, rfl⟩]
    cases inB 0 600000 l[i] <;> simp
  · have : i = l.length := by omega
    subst this
    simp

theorem allWithin_eq {k : Nat} (K : 2^42 ≤ k) {l : List Int} (hl : l.length ≤ 2^40) (a b : Int) : impl_allWithin.f k l a b = some ((l.all (inB a b), ()), ()) := by
  unfold impl_allWithin.f
  refine (impl_allWithin.l2_for l.length (fun _ x1 x2 x9 x10 => a = x1 ∧ b = x2 ∧ l = x9 ∧ (l.length : Int) = x10) (fun i _ _ _ _ => some (((l.drop i).all (inB a b), ()), ())) ?_ k 0 _ _ _ _ (Nat.zero_le _) ⟨rfl, rfl, rfl, rfl⟩ (by omega)).trans (by simp)
  rintro i _ _ _ _ rec hi ⟨rfl, rfl, rfl, rfl⟩ hrec
  unfold impl_allWithin.s2
  by_cases h : i < l.length
  · simp [h, wrap_succ (show i < 2^62 by omega), all_drop h, hrec _ _ _ _ h ⟨rfl, rfl, rfl, rfl⟩]
    cases inB a b l[i] <;> simp
  · have : i = l.length := by omega
    subst this
    simp

theorem toInt64S_eq {k : Nat} (K : 2^42 ≤ k) {l : List Int} (hl : l.length ≤ 2^40) : laws_toInt64S.f k l = some ((l, ()), ()) := by
  unfold laws_toInt64S.f
  have hm : (l.length : Int) * 8 ≤ 140737488355328 := by omega
  simp [AM.maxBytes, hm]
  refine (laws_toInt64S.l3_for l.length (fun i x0 y => l = x0 ∧ l.take i ++ List.replicate (l.length - i) 0 = y) (fun _ _ _ => some ((l, ()), ())) ?_ k 0 _ _ (Nat.zero_le _) ⟨rfl, by simp⟩ (by omega))
  rintro i _ _ rec hi ⟨rfl, rfl⟩ hrec
  unfold laws_toInt64S.s3
  by_cases h : i < l.length
  · have hmin : min i l.length + (l.length - i) = l.length := by omega
    simp [h, hmin, wrap_succ (show i < 2^62 by omega), copy_step h, hrec _ _ h ⟨rfl, rfl⟩]
  · have : i = l.length := by omega
    subst this
    simp

theorem eqInt64S_eq {k : Nat} (K : 2^42 ≤ k) {a b : List Int} (hl : a.length ≤ 2^40) : laws_eqInt64S.f k a b = some ((a == b, ()), ()) := by
  unfold laws_eqInt64S.f
  by_cases hab : a.length = b.length
  · simp only [hab, bne_self_eq_false, cond_false]
    refine (laws_eqInt64S.l4_for a.length (fun i x0 x1 => a = x0 ∧ b = x1) (fun i _ _ => some ((a.drop i == b.drop i, ()), ())) ?_ k 0 _ _ (Nat.zero_le _) ⟨rfl, rfl⟩ (by omega)).trans (by simp)
    rintro i _ _ rec hi ⟨rfl, rfl⟩ hrec
    unfold laws_eqInt64S.s4
    by_cases h : i < a.length
    · have h' : i < b.length := by omega
      simp [h, h', wrap_succ (show i < 2^62 by omega), beq_drop h h', hrec _ _ h ⟨rfl, rfl⟩, bne]
      cases a[i] == b[i] <;> simp
    · have : i = a.length := by omega
      subst this
      simp [hab]
  · have : (a == b) = false := by
      cases hq : a == b with
      | false => rfl
      | true => exact absurd (congrArg List.length (eq_of_beq hq)) hab
    have h2 : ((a.length : Int) != (b.length : Int)) = true := by simp; omega
    simp [h2, this]

theorem markInt64S_eq {k : Nat} (K : 2^42 ≤ k) {l : List Int} (hl : l.length ≤ 2^40) {a : Int} (h0 : 0 ≤ a) (h1 : a ≤ 2^60) : laws_markInt64S.f k l a = some ((a + l.length, ()), (marks a l.length, ())) := by
  unfold laws_markInt64S.f
  refine (laws_markInt64S.l2_for l.length (fun i x1 y => a + (i : Int) = x1 ∧ marks a i ++ l.drop i = y) (fun _ _ _ => some ((a + l.length, ()), (marks a l.length, ()))) ?_ k 0 _ _ (Nat.zero_le _) ⟨by simp, by simp [marks]⟩ (by omega))
  rintro i _ _ rec hi ⟨rfl, rfl⟩ hrec
  unfold laws_markInt64S.s2
  by_cases h : i < l.length
  · have hlen : (marks a i).length + (l.length - i) = l.length := by rw [marks_len]; omega
    have hw : IntKind.wrap .i64 (a + (i : Int) + 1) = a + ((i + 1 : Nat) : Int) := by rw [wrap_id (by omega) (by omega)]; omega
    simp only [List.length_append, List.length_drop, hlen, in_range h, in_rangeN h, Int.toNat_natCast, marks_step h, hw, wrap_succ (show i < 2^62 by omega), decide_eq_true (show (i : Int) < (l.length : Int) by omega), cond_true, hrec _ _ h ⟨rfl, rfl⟩]
    simp [h]
  · have : i = l.length := by omega
    subst this
    simp [marks_len]

theorem heldInt64S_eq {k : Nat} (K : 2^42 ≤ k) {n : Nat} (hl : n ≤ 2^40) {a : Int} (h0 : 0 ≤ a) (h1 : a ≤ 2^60) : laws_heldInt64S.f k (marks a n) a = some ((a + n, ()), ()) := by
  unfold laws_heldInt64S.f
  refine (laws_heldInt64S.l2_for n (fun i x0 x1 => marks a n = x0 ∧ a + (i : Int) = x1) (fun _ _ _ => some ((a + n, ()), ())) ?_ k 0 _ _ (Nat.zero_le _) ⟨rfl, by simp⟩ (by omega))
  rintro i _ _ rec hi ⟨rfl, rfl⟩ hrec
  unfold laws_heldInt64S.s2
  by_cases h : i < n
  · have hw : IntKind.wrap .i64 (a + (i : Int) + 1) = a + ((i + 1 : Nat) : Int) := by rw [wrap_id (by omega) (by omega)]; omega
    simp only [marks_len, in_range h, Int.toNat_natCast, hw, wrap_succ (show i < 2^62 by omega), decide_eq_true (show (i : Int) < (n : Int) by omega), cond_true, getD_lt (show i < (marks a n).length by rw [marks_len]; exact h), marks_get h, bne_self_eq_false, cond_false, hrec _ _ h ⟨rfl, rfl⟩]
    simp
  · have : i = n := by omega
    subst this
    simp [marks_len]

theorem l01Sum_eq {k : Nat} (K : 2^42 ≤ k) {l : List Int} (hl : l.length ≤ 2^20) (hb : l.all (inB 0 600000) = true) : spec_l01Sum.f k l = some ((l.sum, ()), ()) := by
  unfold spec_l01Sum.f
  refine (spec_l01Sum.l3_for l.length (fun i x0 x3 => l = x0 ∧ (l.take i).sum = x3) (fun i _ _ => some ((l.sum, ()), ())) ?_ k 0 _ _ (Nat.zero_le _) ⟨rfl, by simp⟩ (by omega))
  rintro i _ _ rec hi ⟨rfl, rfl⟩ hrec
  unfold spec_l01Sum.s3
  by_cases h : i < l.length
  · have hs := sum_take_le hb i
    have hl2 : (l.take i).length ≤ 2^20 := by rw [List.length_take]; omega
    have hg := (all_inB hb) l[i] (List.getElem_mem h)
    have hw : IntKind.wrap .i64 ((l.take i).sum + l[i]) = (l.take (i + 1)).sum := by rw [sum_take_succ h, wrap_id (by omega) (by omega)]
    simp [h, hw, wrap_succ (show i < 2^62 by omega), hrec _ _ h ⟨rfl, rfl⟩]
  · have : i = l.length := by omega
    subst this
    simp

theorem sumOf_eq {k : Nat} (K : 2^42 ≤ k) {l : List Int} (hl : l.length ≤ 2^20) (hb : l.all (inB 0 600000) = true) : impl_sumOf.f k l = some ((l.sum, ()), ()) := by
  unfold impl_sumOf.f
  refine (impl_sumOf.l3_for l.length (fun i x3 x6 x7 => (l.take i).sum = x3 ∧ l = x6 ∧ (l.length : Int) = x7) (fun i _ _ _ => some ((l.sum, ()), ())) ?_ k 0 _ _ _ (Nat.zero_le _) ⟨by simp, rfl, rfl⟩ (by omega))
  rintro i _ _ _ rec hi ⟨rfl, rfl, rfl⟩ hrec
  unfold impl_sumOf.s3
  by_cases h : i < l.length
  · have hs := sum_take_le hb i
    have hl2 : (l.take i).length ≤ 2^20 := by rw [List.length_take]; omega
    have hg := (all_inB hb) l[i] (List.getElem_mem h)
    have hw : IntKind.wrap .i64 ((l.take i).sum + l[i]) = (l.take (i + 1)).sum := by rw [sum_take_succ h, wrap_id (by omega) (by omega)]
    simp [h, hw, wrap_succ (show i < 2^62 by omega), hrec _ _ _ h ⟨rfl, rfl, rfl⟩]
  · have : i = l.length := by omega
    subst this
    simp

/-- What is too long: the law says nothing of it. -/
theorem long {α : Type} {l : List α} : (decide ((((l.length : Nat) : Int)) > (1048576 : Int))) = decide (1048576 < l.length) := by
  simp; omega

/-- Awards minus payments. -/
def netOf (p a : List Int) : List Int := List.zipWith (fun x y => y - x) p a

/-- What NetResult returns. -/
def NetR (p a : List Int) : List Int × Int :=
  if p.length ≤ 6 ∧ p.all (inB 0 600000) = true ∧ a.all (inB 0 600000) = true ∧ p.length = a.length then (if p.sum = a.sum then (netOf p a, 0) else ([], 5)) else ([], 2)

theorem sNetResult_eq {k : Nat} (K : 2^42 ≤ k) {p a : List Int} (hp : p.length ≤ 2^40) (ha : a.length ≤ 2^40) : spec_NetResult.f k p a = some (((NetR p a).1, (NetR p a).2, ()), ()) := by
  unfold spec_NetResult.f
  by_cases h6 : p.length ≤ 6
  · have h6' : ¬ ((p.length : Int) > 6) := by omega
    simp only [h6', decide_false, cond_false, l10Chips_eq K hp, l10Chips_eq K ha, Option.bind_some]
    cases h1 : p.all (inB 0 600000) with
    | false => simp [NetR, h1]
    | true =>
      by_cases hl : p.length = a.length
      · simp only [hl, beq_self_eq_true, Bool.and_true, Bool.not_true, cond_false]
        cases h2 : a.all (inB 0 600000) with
        | false => simp [NetR, h2]
        | true =>
          simp only [Bool.not_true, cond_false, l01Sum_eq K (show p.length ≤ 2^20 by omega) h1, l01Sum_eq K (show a.length ≤ 2^20 by omega) h2, Option.bind_some]
          by_cases hs : p.sum = a.sum
          · have hn : (netOf p a).length = p.length := by simp [netOf]; omega
            have e1 : NetR p a = (netOf p a, 0) := by unfold NetR; rw [if_pos ⟨h6, h1, h2, hl⟩, if_pos hs]
            rw [e1]
            simp only [hs, bne_self_eq_false, cond_false]
            refine (spec_NetResult.l7_for p.length (fun i x0 x1 y => p = x0 ∧ a = x1 ∧ (netOf p a).take i = y) (fun i _ _ _ => some ((netOf p a, (0, ())), ())) ?_ k 0 _ _ _ (Nat.zero_le _) ⟨rfl, rfl, by simp⟩ (by omega))
            rintro i _ _ _ rec hi ⟨rfl, rfl, rfl⟩ hrec
            unfold spec_NetResult.s7
            by_cases h : i < p.length
            · have h' : i < a.length := by omega
              have hpi := all_inB h1 p[i] (List.getElem_mem h)
              have hai := all_inB h2 a[i] (List.getElem_mem h')
              have hw : IntKind.wrap .i64 (a[i] - p[i]) = (netOf p a)[i]'(by omega) := by rw [wrap_id (by omega) (by omega)]; simp [netOf]
              have hr : decide ((((netOf p a).take i).length + 1) * 8 ≤ AM.maxBytes) = true := room (by rw [List.length_take]; omega) (by omega)
              simp only [in_range h, in_range h', Int.toNat_natCast, getD_lt h, getD_lt h', hw, List.length_singleton, hr, take_snoc (show i < (netOf p a).length by omega), wrap_succ (show i < 2^62 by omega), decide_eq_true (show (i : Int) < (p.length : Int) by omega), cond_true, hrec _ _ _ h ⟨rfl, rfl, rfl⟩]
              simp
            · have : i = p.length := by omega
              subst this
              simp [← hn]
          · have hne : (p.sum != a.sum) = true := by simp [hs]
            have h6a : a.length ≤ 6 := by omega
            simp [hne, NetR, h6a, h1, h2, hl, hs]
      · have hne : ((p.length : Int) == (a.length : Int)) = false := by simp; omega
        simp [hne, NetR, hl]
  · have h6' : ((p.length : Int) > 6) := by omega
    simp [h6', NetR, h6]

theorem clone_eq {k : Nat} {l : List Int} (hl : l.length ≤ 2^40) : slices_Clone_int64_int64.f k l = some ((l, ()), ()) := by
  unfold slices_Clone_int64_int64.f
  have hr : decide ((([] : List Int).length + l.length) * 8 ≤ AM.maxBytes) = true := room (by simpa using hl) (by omega)
  rw [hr]
  by_cases h : 0 < l.length
  · simp [h]
  · have : l = [] := List.eq_nil_of_length_eq_zero (by omega)
    subst this
    simp only [List.length_nil, Nat.lt_irrefl, decide_false, cond_false, cond_true, List.append_nil]
    exact both_same rfl rfl

theorem iNetResult_eq {k : Nat} (K : 2^42 ≤ k) {p a : List Int} (hp : p.length ≤ 2^40) (ha : a.length ≤ 2^40) : impl_NetResult.f k p a = some (((NetR p a).1, (NetR p a).2, ()), ()) := by
  unfold impl_NetResult.f
  by_cases hl : p.length = a.length
  · have hne : ((p.length : Int) != (a.length : Int)) = false := by simp [hl]
    by_cases h6 : p.length ≤ 6
    · have h6' : ¬ ((p.length : Int) > 6) := by omega
      simp only [hne, cond_false, h6', decide_false, allWithin_eq K hp, allWithin_eq K ha, Option.bind_some]
      cases h1 : p.all (inB 0 600000) with
      | false => simp [NetR, h1]
      | true =>
        simp only [Bool.not_true, cond_false]
        cases h2 : a.all (inB 0 600000) with
        | false => simp [NetR, h2]
        | true =>
          simp only [Bool.not_true, cond_false, sumOf_eq K (show p.length ≤ 2^20 by omega) h1, sumOf_eq K (show a.length ≤ 2^20 by omega) h2, Option.bind_some]
          by_cases hs : p.sum = a.sum
          · have hn : (netOf p a).length = a.length := by simp [netOf]; omega
            have e1 : NetR p a = (netOf p a, 0) := by unfold NetR; rw [if_pos ⟨h6, h1, h2, hl⟩, if_pos hs]
            rw [e1]
            simp only [hs, bne_self_eq_false, cond_false, clone_eq ha, Option.bind_some]
            refine (impl_NetResult.l7_for p.length (fun i x36 x37 y => p = x36 ∧ (p.length : Int) = x37 ∧ (netOf p a).take i ++ a.drop i = y) (fun i _ _ _ => some ((netOf p a, (0, ())), ())) ?_ k 0 _ _ _ (Nat.zero_le _) ⟨rfl, rfl, by simp⟩ (by omega))
            rintro i _ _ _ rec hi ⟨rfl, rfl, rfl⟩ hrec
            unfold impl_NetResult.s7
            by_cases h : i < p.length
            · have h' : i < a.length := by omega
              have hpi := all_inB h1 p[i] (List.getElem_mem h)
              have hai := all_inB h2 a[i] (List.getElem_mem h')
              have hw : IntKind.wrap .i64 (a[i] - p[i]) = (netOf p a)[i]'(by omega) := by rw [wrap_id (by omega) (by omega)]; simp [netOf]
              simp only [upd_len hn (show i ≤ a.length by omega), upd_get hn h', in_range h, in_range h', in_rangeN h', Int.toNat_natCast, getD_lt h, hw, upd_step (show i < (netOf p a).length by omega) h', wrap_succ (show i < 2^62 by omega), decide_eq_true (show (i : Int) < (p.length : Int) by omega), cond_true, hrec _ _ _ h ⟨rfl, rfl, rfl⟩]
              simp [h']
            · have : i = p.length := by omega
              subst this
              simp [hl, ← hn]
          · have hne : (p.sum != a.sum) = true := by simp [hs]
            have h6a : a.length ≤ 6 := by omega
            simp [hne, NetR, h6a, h1, h2, hl, hs]
    · have h6' : decide ((p.length : Int) > 6) = true := by simp; omega
      have h6a : ¬ a.length ≤ 6 := by omega
      simp only [hne, cond_false, h6', cond_true]
      simp [NetR, hl, h6a]
  · have hne : ((p.length : Int) != (a.length : Int)) = true := by simp; omega
    simp [hne, NetR, hl]

theorem NetR_len (p a : List Int) : (NetR p a).1.length ≤ 2^40 := by
  unfold NetR
  split
  · split
    · rename_i h _; simp [netOf]; omega
    · simp
  · simp

theorem FnExactNetResult_ok (a0 : List Int) (a1 : List Int) : laws_FnExactNetResult.f (2^42) a0 a1 = some ((true, ()), ()) := by
  unfold laws_FnExactNetResult.f
  simp only [long]
  by_cases h1 : 1048576 < a0.length
  · simp [h1]
  by_cases h2 : 1048576 < a1.length
  · simp [h1, h2]
  have K : 2^42 ≤ 2^42 := Nat.le_refl _
  have hl : a0.length ≤ 2^40 := by omega
  have hm : a1.length ≤ 2^40 := by omega
  have hr := NetR_len a0 a1
  have e1 := markInt64S_eq K hl (a := 1) (by omega) (by omega)
  have e2 := markInt64S_eq K hm (a := 1 + a0.length) (by omega) (by omega)
  have e3 := markInt64S_eq K hr (a := 1) (by omega) (by omega)
  have e4 := heldInt64S_eq K hr (a := 1) (by omega) (by omega)
  have n1 : decide ((1 : Int) + a0.length + a1.length < 0) = false := by simp; omega
  have n2 : decide ((1 : Int) + (NetR a0 a1).1.length < 0) = false := by simp; omega
  simp only [h1, h2, toInt64S_eq K hl, toInt64S_eq K hm, sNetResult_eq K hl hm, iNetResult_eq K hl hm, eqInt64S_eq K hl, eqInt64S_eq K hm, eqInt64S_eq K hr, e1, e2, e3, e4, n1, n2, Option.bind_some, decide_false, cond_false, beq_self_eq_true, Bool.not_true, bne_self_eq_false]
end Go.Sh
