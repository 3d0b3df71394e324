/- What the Lean functions compute, in plain lists and numbers; conditions stand in each lemma. -/
import Derived.Test.YtdfpkmdnoncliaaSFnExactArePayments0
set_option linter.unusedVariables false
set_option linter.unusedSimpArgs false
namespace Go.Sh
open Go
theorem l01In_eq (k : Nat) (a lo hi : Int) : spec_l01In.f k a lo hi = some ((inB lo hi a, ()), ()) := by
  unfold spec_l01In.f inB
  by_cases h : lo ≤ a <;> simp [h]

theorem within_eq (k : Nat) (a lo hi : Int) : impl_within.f k a lo hi = some ((inB lo hi a, ()), ()) := by
  unfold impl_within.f inB
  by_cases h : lo ≤ a <;> simp [h]

attribute [simp] l01In_eq within_eq

theorem l10Chips_eq {k : Nat} (K : 2^42 ≤ k) {l : List Int} (hl : l.length ≤ 2^40) (n : Int) : spec_l10Chips.f k l n = some ((l.all (inB 0 600000) && ((l.length : Int) == n), ()), ()) := by
  unfold spec_l10Chips.f
  refine (spec_l10Chips.l2_for l.length (fun _ x0 x1 => l = x0 ∧ n = x1) (fun i _ _ => some ((((l.drop i).all (inB 0 600000) && ((l.length : Int) == n)), ()), ())) ?_ k 0 l n (Nat.zero_le _) ⟨rfl, rfl⟩ (by omega)).trans (by simp)
  rintro i _ _ rec hi ⟨rfl, rfl⟩ hrec
  unfold spec_l10Chips.s2
  by_cases h : i < l.length
  · simp [h, wrap_succ (show i < 2^62 by omega), all_drop h, hrec _ _ h ⟨rfl, rfl⟩]
    cases inB 0 600000 l[i] <;> simp
  · have : i = l.length := by omega
    subst this
    simp

theorem allWithin_eq {k : Nat} (K : 2^42 ≤ k) {l : List Int} (hl : l.length ≤ 2^40) (a b : Int) : impl_allWithin.f k l a b = some ((l.all (inB a b), ()), ()) := by
  unfold impl_allWithin.f
  refine (impl_allWithin.l2_for l.length (fun _ x1 x2 x9 x10 => a = x1 ∧ b = x2 ∧ l = x9 ∧ (l.length : Int) = x10) (fun i _ _ _ _ => some (((l.drop i).all (inB a b), ()), ())) ?_ k 0 _ _ _ _ (Nat.zero_le _) ⟨rfl, rfl, rfl, rfl⟩ (by omega)).trans (by simp)
  rintro i _ _ _ _ rec hi ⟨rfl, rfl, rfl, rfl⟩ hrec
  unfold impl_allWithin.s2
  by_cases h : i < l.length
  · simp [h, wrap_succ (show i < 2^62 by omega), all_drop h, hrec _ _ _ _ h ⟨rfl, rfl, rfl, rfl⟩]
    cases inB a b l[i] <;> simp
  · have : i = l.length := by omega
    subst this
    simp

theorem toInt64S_eq {k : Nat} (K : 2^42 ≤ k) {l : List Int} (hl : l.length ≤ 2^40) : laws_toInt64S.f k l = some ((l, ()), ()) := by
  unfold laws_toInt64S.f
  have hm : (l.length : Int) * 8 ≤ 140737488355328 := by omega
  simp [AM.maxBytes, hm]
  refine (laws_toInt64S.l3_for l.length (fun i x0 y => l = x0 ∧ l.take i ++ List.replicate (l.length - i) 0 = y) (fun _ _ _ => some ((l, ()), ())) ?_ k 0 _ _ (Nat.zero_le _) ⟨rfl, by simp⟩ (by omega))
  rintro i _ _ rec hi ⟨rfl, rfl⟩ hrec
  unfold laws_toInt64S.s3
  by_cases h : i < l.length
  · have hmin : min i l.length + (l.length - i) = l.length := by omega
    simp [h, hmin, wrap_succ (show i < 2^62 by omega), copy_step h, hrec _ _ h ⟨rfl, rfl⟩]
  · have : i = l.length := by omega
    subst this
    simp

theorem toBoolS_eq {k : Nat} (K : 2^42 ≤ k) {l : List Bool} (hl : l.length ≤ 2^40) : laws_toBoolS.f k l = some ((l, ()), ()) := by
  unfold laws_toBoolS.f
  have hm : (l.length : Int) ≤ 140737488355328 := by omega
  simp [AM.maxBytes, hm]
  refine (laws_toBoolS.l3_for l.length (fun i x0 y => l = x0 ∧ l.take i ++ List.replicate (l.length - i) false = y) (fun _ _ _ => some ((l, ()), ())) ?_ k 0 _ _ (Nat.zero_le _) ⟨rfl, by simp⟩ (by omega))
  rintro i _ _ rec hi ⟨rfl, rfl⟩ hrec
  unfold laws_toBoolS.s3
  by_cases h : i < l.length
  · have hmin : min i l.length + (l.length - i) = l.length := by omega
    simp [h, hmin, wrap_succ (show i < 2^62 by omega), copy_step h, hrec _ _ h ⟨rfl, rfl⟩]
  · have : i = l.length := by omega
    subst this
    simp

theorem eqInt64S_eq {k : Nat} (K : 2^42 ≤ k) {a b : List Int} (hl : a.length ≤ 2^40) : laws_eqInt64S.f k a b = some ((a == b, ()), ()) := by
  unfold laws_eqInt64S.f
  by_cases hab : a.length = b.length
  · simp only [hab, bne_self_eq_false, cond_false]
    refine (laws_eqInt64S.l4_for a.length (fun i x0 x1 => a = x0 ∧ b = x1) (fun i _ _ => some ((a.drop i == b.drop i, ()), ())) ?_ k 0 _ _ (Nat.zero_le _) ⟨rfl, rfl⟩ (by omega)).trans (by simp)
    rintro i _ _ rec hi ⟨rfl, rfl⟩ hrec
    unfold laws_eqInt64S.s4
    by_cases h : i < a.length
    · have h' : i < b.length := by omega
      simp [h, h', wrap_succ (show i < 2^62 by omega), beq_drop h h', hrec _ _ h ⟨rfl, rfl⟩, bne]
      cases a[i] == b[i] <;> simp
    · have : i = a.length := by omega
      subst this
      simp [hab]
  · have : (a == b) = false := by
      cases hq : a == b with
      | false => rfl
      | true => exact absurd (congrArg List.length (eq_of_beq hq)) hab
    have h2 : ((a.length : Int) != (b.length : Int)) = true := by simp; omega
    simp [h2, this]

theorem eqBoolS_eq {k : Nat} (K : 2^42 ≤ k) {a b : List Bool} (hl : a.length ≤ 2^40) : laws_eqBoolS.f k a b = some ((a == b, ()), ()) := by
  unfold laws_eqBoolS.f
  by_cases hab : a.length = b.length
  · simp only [hab, bne_self_eq_false, cond_false]
    refine (laws_eqBoolS.l4_for a.length (fun i x0 x1 => a = x0 ∧ b = x1) (fun i _ _ => some ((a.drop i == b.drop i, ()), ())) ?_ k 0 _ _ (Nat.zero_le _) ⟨rfl, rfl⟩ (by omega)).trans (by simp)
    rintro i _ _ rec hi ⟨rfl, rfl⟩ hrec
    unfold laws_eqBoolS.s4
    by_cases h : i < a.length
    · have h' : i < b.length := by omega
      simp [h, h', wrap_succ (show i < 2^62 by omega), beq_drop h h', hrec _ _ h ⟨rfl, rfl⟩]
      cases a[i] <;> cases b[i] <;> simp
    · have : i = a.length := by omega
      subst this
      simp [hab]
  · have : (a == b) = false := by
      cases hq : a == b with
      | false => rfl
      | true => exact absurd (congrArg List.length (eq_of_beq hq)) hab
    have h2 : ((a.length : Int) != (b.length : Int)) = true := by simp; omega
    simp [h2, this]

/-- Some seat has paid and not folded. -/
def live : List Int → List Bool → Bool
  | n :: l, b :: m => (!b && decide (n > 0)) || live l m
  | _, _ => false

theorem live_drop {l : List Int} {m : List Bool} {i : Nat} (h : i < l.length) (h' : i < m.length) : live (l.drop i) (m.drop i) = ((!m[i] && decide (l[i] > 0)) || live (l.drop (i + 1)) (m.drop (i + 1))) := by
  rw [List.drop_eq_getElem_cons h, List.drop_eq_getElem_cons h', live]

/-- Payments. -/
def pays (l : List Int) (m : List Bool) : Bool := inB 2 6 l.length && ((l.all (inB 0 600000) && l.length == m.length) && live l m)

theorem sArePayments_eq {k : Nat} (K : 2^42 ≤ k) {l : List Int} (hl : l.length ≤ 2^40) (m : List Bool) : spec_ArePayments.f k l m = some ((pays l m, ()), ()) := by
  unfold spec_ArePayments.f pays
  cases h1 : inB 2 6 l.length with
  | false => simp [h1]
  | true =>
    simp only [l01In_eq, Option.bind_some, h1, Bool.not_true, cond_false, l10Chips_eq K hl, Bool.true_and]
    have hc : ((l.length : Int) == (m.length : Int)) = (l.length == m.length) := by
      rw [Bool.eq_iff_iff]; simp; omega
    rw [hc]
    cases h2 : l.all (inB 0 600000) && l.length == m.length with
    | false => simp [h2]
    | true =>
      have hlen : l.length = m.length := by
        simp only [Bool.and_eq_true, beq_iff_eq] at h2
        exact h2.2
      simp only [Bool.not_true, cond_false, Bool.true_and]
      refine (spec_ArePayments.l4_for l.length (fun i x0 x1 => l = x0 ∧ m = x1) (fun i _ _ => some ((live (l.drop i) (m.drop i), ()), ())) ?_ k 0 _ _ (Nat.zero_le _) ⟨rfl, rfl⟩ (by omega)).trans (by simp)
      rintro i _ _ rec hi ⟨rfl, rfl⟩ hrec
      unfold spec_ArePayments.s4
      by_cases h : i < l.length
      · have h' : i < m.length := by omega
        simp [h, h', wrap_succ (show i < 2^62 by omega), live_drop h h', hrec _ _ h ⟨rfl, rfl⟩]
        cases m[i] <;> by_cases hc : 0 < l[i] <;> simp [hc]
      · have : i = l.length := by omega
        subst this
        simp [live]

theorem iArePayments_eq {k : Nat} (K : 2^42 ≤ k) {l : List Int} (hl : l.length ≤ 2^40) (m : List Bool) : impl_ArePayments.f k l m = some ((pays l m, ()), ()) := by
  unfold impl_ArePayments.f pays
  cases h1 : inB 2 6 l.length with
  | false => simp [h1]
  | true =>
    simp only [within_eq, Option.bind_some, h1, Bool.not_true, cond_false, allWithin_eq K hl, Bool.true_and]
    by_cases hlen : l.length = m.length
    · simp only [hlen, bne_self_eq_false, cond_false, beq_self_eq_true, Bool.and_true]
      cases h2 : l.all (inB 0 600000) with
      | false => simp
      | true =>
        simp only [Bool.not_true, cond_false, Bool.true_and]
        refine (impl_ArePayments.l4_for l.length (fun i x1 x23 x24 => m = x1 ∧ l = x23 ∧ (l.length : Int) = x24) (fun i _ _ _ => some ((live (l.drop i) (m.drop i), ()), ())) ?_ k 0 _ _ _ (Nat.zero_le _) ⟨rfl, rfl, by rw [hlen]⟩ (by omega)).trans (by simp)
        rintro i _ _ _ rec hi ⟨rfl, rfl, rfl⟩ hrec
        unfold impl_ArePayments.s4
        by_cases h : i < l.length
        · have h' : i < m.length := by omega
          simp [h, h', wrap_succ (show i < 2^62 by omega), live_drop h h', hrec _ _ _ h ⟨rfl, rfl, rfl⟩]
          cases m[i] <;> by_cases hc : 0 < l[i] <;> simp [hc]
        · have : i = l.length := by omega
          subst this
          simp [live]
    · have h3 : ((m.length : Int) != (l.length : Int)) = true := by simp; omega
      have h4 : (l.length == m.length) = false := by simp [hlen]
      simp [h3, h4]

/-- What is too long: the law says nothing of it. -/
theorem long {α : Type} {l : List α} : (decide ((((l.length : Nat) : Int)) > (1048576 : Int))) = decide (1048576 < l.length) := by
  simp; omega

theorem FnExactArePayments_ok (l : List Int) (m : List Bool) : laws_FnExactArePayments.f (2^42) l m = some ((true, ()), ()) := by
  unfold laws_FnExactArePayments.f
  simp only [long]
  by_cases h1 : 1048576 < l.length
  · simp [h1]
  by_cases h2 : 1048576 < m.length
  · simp [h1, h2]
  have K : 2^42 ≤ 2^42 := Nat.le_refl _
  have hl : l.length ≤ 2^40 := by omega
  have hm : m.length ≤ 2^40 := by omega
  simp [h1, h2, toInt64S_eq K hl, toBoolS_eq K hm, sArePayments_eq K hl, iArePayments_eq K hl, eqInt64S_eq K hl, eqBoolS_eq K hm]
end Go.Sh
