/- What the Lean functions compute, in plain lists and numbers; conditions stand in each lemma. -/
import Derived.Test.YtipjcodpegpocaaSFnExactLowWinners0
set_option linter.unusedVariables false
set_option linter.unusedSimpArgs false
namespace Go.Sh
open Go
theorem l01In_eq (k : Nat) (a lo hi : Int) : spec_l01In.f k a lo hi = some ((inB lo hi a, ()), ()) := by
  unfold spec_l01In.f inB
  by_cases h : lo ≤ a <;> simp [h]

theorem within_eq (k : Nat) (a lo hi : Int) : impl_within.f k a lo hi = some ((inB lo hi a, ()), ()) := by
  unfold impl_within.f inB
  by_cases h : lo ≤ a <;> simp [h]

attribute [simp] l01In_eq within_eq

theorem allWithin_eq {k : Nat} (K : 2^42 ≤ k) {l : List Int} (hl : l.length ≤ 2^40) (a b : Int) : impl_allWithin.f k l a b = some ((l.all (inB a b), ()), ()) := by
  unfold impl_allWithin.f
  refine (impl_allWithin.l2_for l.length (fun _ x1 x2 x9 x10 => a = x1 ∧ b = x2 ∧ l = x9 ∧ (l.length : Int) = x10) (fun i _ _ _ _ => some (((l.drop i).all (inB a b), ()), ())) ?_ k 0 _ _ _ _ (Nat.zero_le _) ⟨rfl, rfl, rfl, rfl⟩ (by omega)).trans (by simp)
  rintro i _ _ _ _ rec hi ⟨rfl, rfl, rfl, rfl⟩ hrec
  unfold impl_allWithin.s2
  by_cases h : i < l.length
  · simp [h, wrap_succ (show i < 2^62 by omega), all_drop h, hrec _ _ _ _ h ⟨rfl, rfl, rfl, rfl⟩]
    cases inB a b l[i] <;> simp
  · have : i = l.length := by omega
    subst this
    simp

theorem toInt64S_eq {k : Nat} (K : 2^42 ≤ k) {l : List Int} (hl : l.length ≤ 2^40) : laws_toInt64S.f k l = some ((l, ()), ()) := by
  unfold laws_toInt64S.f
  have hm : (l.length : Int) * 8 ≤ 140737488355328 := by omega
  simp [AM.maxBytes, hm]
  refine (laws_toInt64S.l3_for l.length (fun i x0 y => l = x0 ∧ l.take i ++ List.replicate (l.length - i) 0 = y) (fun _ _ _ => some ((l, ()), ())) ?_ k 0 _ _ (Nat.zero_le _) ⟨rfl, by simp⟩ (by omega))
  rintro i _ _ rec hi ⟨rfl, rfl⟩ hrec
  unfold laws_toInt64S.s3
  by_cases h : i < l.length
  · have hmin : min i l.length + (l.length - i) = l.length := by omega
    simp [h, hmin, wrap_succ (show i < 2^62 by omega), copy_step h, hrec _ _ h ⟨rfl, rfl⟩]
  · have : i = l.length := by omega
    subst this
    simp

theorem eqInt64S_eq {k : Nat} (K : 2^42 ≤ k) {a b : List Int} (hl : a.length ≤ 2^40) : laws_eqInt64S.f k a b = some ((a == b, ()), ()) := by
  unfold laws_eqInt64S.f
  by_cases hab : a.length = b.length
  · simp only [hab, bne_self_eq_false, cond_false]
    refine (laws_eqInt64S.l4_for a.length (fun i x0 x1 => a = x0 ∧ b = x1) (fun i _ _ => some ((a.drop i == b.drop i, ()), ())) ?_ k 0 _ _ (Nat.zero_le _) ⟨rfl, rfl⟩ (by omega)).trans (by simp)
    rintro i _ _ rec hi ⟨rfl, rfl⟩ hrec
    unfold laws_eqInt64S.s4
    by_cases h : i < a.length
    · have h' : i < b.length := by omega
      simp [h, h', wrap_succ (show i < 2^62 by omega), beq_drop h h', hrec _ _ h ⟨rfl, rfl⟩, bne]
      cases a[i] == b[i] <;> simp
    · have : i = a.length := by omega
      subst this
      simp [hab]
  · have : (a == b) = false := by
      cases hq : a == b with
      | false => rfl
      | true => exact absurd (congrArg List.length (eq_of_beq hq)) hab
    have h2 : ((a.length : Int) != (b.length : Int)) = true := by simp; omega
    simp [h2, this]

theorem markInt64S_eq {k : Nat} (K : 2^42 ≤ k) {l : List Int} (hl : l.length ≤ 2^40) {a : Int} (h0 : 0 ≤ a) (h1 : a ≤ 2^60) : laws_markInt64S.f k l a = some ((a + l.length, ()), (marks a l.length, ())) := by
  unfold laws_markInt64S.f
  refine (laws_markInt64S.l2_for l.length (fun i x1 y => a + (i : Int) = x1 ∧ marks a i ++ l.drop i = y) (fun _ _ _ => some ((a + l.length, ()), (marks a l.length, ()))) ?_ k 0 _ _ (Nat.zero_le _) ⟨by simp, by simp [marks]⟩ (by omega))
  rintro i _ _ rec hi ⟨rfl, rfl⟩ hrec
  unfold laws_markInt64S.s2
  by_cases h : i < l.length
  · have hlen : (marks a i).length + (l.length - i) = l.length := by rw [marks_len]; omega
    have hw : IntKind.wrap .i64 (a + (i : Int) + 1) = a + ((i + 1 : Nat) : Int) := by rw [wrap_id (by omega) (by omega)]; omega
    simp only [List.length_append, List.length_drop, hlen, in_range h, in_rangeN h, Int.toNat_natCast, marks_step h, hw, wrap_succ (show i < 2^62 by omega), decide_eq_true (show (i : Int) < (l.length : Int) by omega), cond_true, hrec _ _ h ⟨rfl, rfl⟩]
    simp [h]
  · have : i = l.length := by omega
    subst this
    simp [marks_len]

theorem heldInt64S_eq {k : Nat} (K : 2^42 ≤ k) {n : Nat} (hl : n ≤ 2^40) {a : Int} (h0 : 0 ≤ a) (h1 : a ≤ 2^60) : laws_heldInt64S.f k (marks a n) a = some ((a + n, ()), ()) := by
  unfold laws_heldInt64S.f
  refine (laws_heldInt64S.l2_for n (fun i x0 x1 => marks a n = x0 ∧ a + (i : Int) = x1) (fun _ _ _ => some ((a + n, ()), ())) ?_ k 0 _ _ (Nat.zero_le _) ⟨rfl, by simp⟩ (by omega))
  rintro i _ _ rec hi ⟨rfl, rfl⟩ hrec
  unfold laws_heldInt64S.s2
  by_cases h : i < n
  · have hw : IntKind.wrap .i64 (a + (i : Int) + 1) = a + ((i + 1 : Nat) : Int) := by rw [wrap_id (by omega) (by omega)]; omega
    simp only [marks_len, in_range h, Int.toNat_natCast, hw, wrap_succ (show i < 2^62 by omega), decide_eq_true (show (i : Int) < (n : Int) by omega), cond_true, getD_lt (show i < (marks a n).length by rw [marks_len]; exact h), marks_get h, bne_self_eq_false, cond_false, hrec _ _ h ⟨rfl, rfl⟩]
    simp
  · have : i = n := by omega
    subst this
    simp [marks_len]

/-- What is too long: the law says nothing of it. -/
theorem long {α : Type} {l : List α} : (decide ((((l.length : Nat) : Int)) > (1048576 : Int))) = decide (1048576 < l.length) := by
  simp; omega

/-- Strictly rising. -/
def risesB : List Int → Bool
  | x :: y :: l => decide (x < y) && risesB (y :: l)
  | _ => true

theorem rises_drop {l : List Int} {i : Nat} (h : i + 1 < l.length) : risesB (l.drop i) = (decide (l[i] < l[i + 1]) && risesB (l.drop (i + 1))) := by
  rw [List.drop_eq_getElem_cons (show i < l.length by omega), List.drop_eq_getElem_cons h, risesB]

theorem rises_last {l : List Int} {i : Nat} (h : l.length ≤ i + 1) : risesB (l.drop i) = true := by
  have : (l.drop i).length ≤ 1 := by rw [List.length_drop]; omega
  match hd : l.drop i, this with
  | [], _ => rfl
  | [_], _ => rfl

theorem increasing_eq {k : Nat} (K : 2^42 ≤ k) {l : List Int} (hl : l.length ≤ 2^40) (h0 : 0 < l.length) : impl_increasing.f k l = some ((risesB l, ()), ()) := by
  unfold impl_increasing.f
  refine (impl_increasing.l2_for l.length (fun i x0 => l = x0 ∧ 1 ≤ i) (fun i _ => some ((risesB (l.drop (i - 1)), ()), ())) ?_ k 1 _ (by omega) ⟨rfl, by omega⟩ (by omega)).trans (by simp)
  rintro i _ rec hi ⟨rfl, h1⟩ hrec
  unfold impl_increasing.s2
  by_cases h : i < l.length
  · have hp : i - 1 < l.length := by omega
    have e : risesB (l.drop (i - 1)) = (decide (l[i - 1] < l[i]) && risesB (l.drop i)) := by
      have e1 : i - 1 + 1 = i := by omega
      have := rises_drop (l := l) (i := i - 1) (by omega)
      simp only [e1] at this
      exact this
    simp only [wrap_pred (show i < 2^62 by omega) (by omega), nn, ltD h, ltD hp, Bool.and_self, Int.toNat_natCast, getD_lt h, getD_lt hp, wrap_succ (show i < 2^62 by omega), cond_true, hrec _ h ⟨rfl, by omega⟩, e, Nat.add_sub_cancel]
    by_cases hx : l[i - 1] < l[i]
    · simp [hx, show ¬ l[i] ≤ l[i - 1] by omega]
    · simp [hx, show l[i] ≤ l[i - 1] by omega]
  · have : i = l.length := by omega
    subst this
    simp [rises_last (l := l) (i := l.length - 1) (by omega)]

theorem l01Rises_eq {k : Nat} (K : 2^42 ≤ k) {l : List Int} (hl : l.length ≤ 2^40) {n : Int} (h0 : 0 ≤ n) (h1 : n ≤ 2^40) : spec_l01Rises.f k l n = some ((l.all (inB 0 (n - 1)) && risesB l, ()), ()) := by
  unfold spec_l01Rises.f
  have hw : IntKind.wrap .i64 (n - 1) = n - 1 := wrap_id (by omega) (by omega)
  refine (spec_l01Rises.l2_for l.length (fun i x0 x1 => l = x0 ∧ n = x1) (fun i _ _ => some (((l.drop i).all (inB 0 (n - 1)) && risesB (l.drop (i - 1)), ()), ())) ?_ k 0 _ _ (by omega) ⟨rfl, rfl⟩ (by omega)).trans (by simp)
  rintro i _ _ rec hi ⟨rfl, rfl⟩ hrec
  unfold spec_l01Rises.s2
  by_cases h : i < l.length
  · simp only [hw, l01In_eq, nn, ltD h, Bool.and_self, Int.toNat_natCast, getD_lt h, wrap_succ (show i < 2^62 by omega), cond_true, hrec _ _ h ⟨rfl, rfl⟩, Option.bind_some, all_drop h, Nat.add_sub_cancel]
    cases hb : inB 0 (n - 1) l[i] with
    | false => simp
    | true =>
      simp only [Bool.not_true, cond_false, Bool.true_and]
      rcases Nat.eq_zero_or_pos i with e0 | e0
      · subst e0
        simp
      · have hp : i - 1 < l.length := by omega
        have e : risesB (l.drop (i - 1)) = (decide (l[i - 1] < l[i]) && risesB (l.drop i)) := by
          have e1 : i - 1 + 1 = i := by omega
          have := rises_drop (l := l) (i := i - 1) (by omega)
          simp only [e1] at this
          exact this
        have hpos : decide ((i : Int) > 0) = true := by simp; exact e0
        simp only [hpos, cond_true, wrap_pred (show i < 2^62 by omega) (by omega), nn, ltD hp, Bool.and_self, Int.toNat_natCast, getD_lt hp, e]
        by_cases hx : l[i - 1] < l[i]
        · simp [hx, show ¬ l[i] ≤ l[i - 1] by omega]
        · simp [hx, show l[i] ≤ l[i - 1] by omega]
  · have : i = l.length := by omega
    subst this
    simp [rises_last (l := l) (i := l.length - 1) (by omega)]

/-- Seats of a pot. -/
def wins (w : List Int) (n : Int) : Bool := decide (0 < w.length) && (w.all (inB 0 (n - 1)) && risesB w)

theorem l13Winners_eq {k : Nat} (K : 2^42 ≤ k) {l : List Int} (hl : l.length ≤ 2^40) {n : Int} (h0 : 0 ≤ n) (h1 : n ≤ 2^40) : spec_l13Winners.f k l n = some ((wins l n, ()), ()) := by
  unfold spec_l13Winners.f wins
  rw [l01Rises_eq K hl h0 h1]
  by_cases h : 0 < l.length <;> simp [h]

theorem areWinners_eq {k : Nat} (K : 2^42 ≤ k) {l : List Int} (hl : l.length ≤ 2^40) {n : Int} (h0 : 0 ≤ n) (h1 : n ≤ 2^40) : impl_areWinners.f k l n = some ((wins l n, ()), ()) := by
  unfold impl_areWinners.f wins
  have hw : IntKind.wrap .i64 (n - 1) = n - 1 := wrap_id (by omega) (by omega)
  by_cases h : 0 < l.length
  · have e : decide ((l.length : Int) > 0) = true := decide_eq_true (by omega)
    simp only [e, cond_true, hw, allWithin_eq K hl, Option.bind_some, h, decide_true, Bool.true_and]
    cases hb : l.all (inB 0 (n - 1)) with
    | false => simp
    | true => simp [increasing_eq K hl h]
  · have e : decide ((l.length : Int) > 0) = false := decide_eq_false (by omega)
    simp [e, h]

/-- One seat's turn: the best value so far (below 0: none), and who has it. -/
def bestStep (hi : Bool) (vals : List Int) (s : Int × List Int) (w : Int) : Int × List Int :=
  if vals.getD w.toNat 0 < 0 then s else if s.1 < 0 ∨ (hi = true ∧ vals.getD w.toNat 0 > s.1) ∨ (hi = false ∧ vals.getD w.toNat 0 < s.1) then (vals.getD w.toNat 0, [w]) else if vals.getD w.toNat 0 = s.1 then (s.1, s.2 ++ [w]) else s

def bestRun (hi : Bool) (vals ws : List Int) (i : Nat) : Int × List Int := (ws.take i).foldl (bestStep hi vals) (-1, [])

def bestL (hi : Bool) (vals ws : List Int) : List Int := (bestRun hi vals ws ws.length).2

theorem bestRun_succ {hi : Bool} {vals ws : List Int} {i : Nat} (h : i < ws.length) : bestRun hi vals ws (i + 1) = bestStep hi vals (bestRun hi vals ws i) ws[i] := by
  unfold bestRun; rw [← List.take_append_getElem h, List.foldl_append]; rfl

theorem bestRun_len (hi : Bool) (vals ws : List Int) : ∀ i, (bestRun hi vals ws i).2.length ≤ i
  | 0 => by simp [bestRun]
  | i + 1 => by
    by_cases h : i < ws.length
    · have := bestRun_len hi vals ws i
      rw [bestRun_succ h]
      unfold bestStep
      split
      · omega
      · split
        · simp
        · split
          · simp; omega
          · omega
    · have e : ws.take (i + 1) = ws.take i := by rw [List.take_of_length_le (by omega), List.take_of_length_le (by omega)]
      unfold bestRun at *
      rw [e]
      have := bestRun_len hi vals ws i
      unfold bestRun at this
      omega

theorem sBest_eq {k : Nat} (K : 2^42 ≤ k) {ws vals : List Int} (hl : ws.length ≤ 2^40) (hv : ws.all (inB 0 ((vals.length : Int) - 1)) = true) (hi : Bool) : spec_l13Best.f k ws vals hi = some ((bestL hi vals ws, ()), ()) := by
  unfold spec_l13Best.f
  refine (spec_l13Best.l4_for ws.length (fun i x0 x1 x2 x8 y => ws = x0 ∧ vals = x1 ∧ hi = x2 ∧ (bestRun hi vals ws i).1 = x8 ∧ (bestRun hi vals ws i).2 = y) (fun _ _ _ _ _ _ => some ((bestL hi vals ws, ()), ())) ?_ k 0 _ _ _ _ _ (Nat.zero_le _) ⟨rfl, rfl, rfl, rfl, rfl⟩ (by omega))
  rintro i _ _ _ _ _ rec hi' ⟨rfl, rfl, rfl, rfl, rfl⟩ hrec
  unfold spec_l13Best.s4
  by_cases h : i < ws.length
  · have hb := all_inB hv ws[i] (List.getElem_mem h)
    have e := hrec ws vals hi _ _ h ⟨rfl, rfl, rfl, rfl, rfl⟩
    rw [bestRun_succ h] at e
    unfold bestStep at e
    have hlen := bestRun_len hi vals ws i
    obtain ⟨j, hj⟩ := Int.eq_ofNat_of_zero_le hb.1
    have hj' : ws[i] = (j : Int) := hj
    have hjl : j < vals.length := by omega
    have hr : decide (((bestRun hi vals ws i).2.length + 1) * 8 ≤ AM.maxBytes) = true := room (by omega) (by omega)
    rw [hj'] at e
    simp only [Int.toNat_natCast] at e
    simp only [nn, ltD h, Bool.and_self, Int.toNat_natCast, getD_lt h, hj', ltD hjl, wrap_succ (show i < 2^62 by omega), cond_true, List.length_singleton, hr]
    generalize bestRun hi vals ws i = s at *
    obtain ⟨v, hv'⟩ : ∃ v, vals.getD j 0 = v := ⟨_, rfl⟩
    simp only [hv'] at e ⊢
    by_cases c1 : v < 0
    · rw [if_pos c1] at e
      simp only [decide_eq_true c1, cond_true, e]
    · rw [if_neg c1] at e
      simp only [decide_eq_false c1, cond_false]
      by_cases c2 : s.1 < 0
      · rw [if_pos (.inl c2)] at e
        simp only [decide_eq_true c2, cond_true, e]
      · simp only [decide_eq_false c2, cond_false]
        cases hi with
        | true =>
          by_cases c3 : v > s.1
          · rw [if_pos (.inr (.inl ⟨rfl, c3⟩))] at e
            simp only [decide_eq_true c3, cond_true, e]
          · rw [if_neg (by simp; omega)] at e
            simp only [decide_eq_false c3, cond_true, cond_false, Bool.not_true]
            by_cases c4 : v = s.1
            · rw [if_pos c4] at e
              simp only [c4, beq_self_eq_true, cond_true, e]
            · rw [if_neg c4] at e
              have hb4 : (v == s.1) = false := by simp [c4]
              simp only [hb4, cond_false, e]
        | false =>
          by_cases c3 : v < s.1
          · rw [if_pos (.inr (.inr ⟨rfl, c3⟩))] at e
            simp only [decide_eq_true c3, cond_true, cond_false, Bool.not_false, e]
          · rw [if_neg (by simp; omega)] at e
            simp only [decide_eq_false c3, cond_true, cond_false, Bool.not_false]
            by_cases c4 : v = s.1
            · rw [if_pos c4] at e
              simp only [c4, beq_self_eq_true, cond_true, e]
            · rw [if_neg c4] at e
              have hb4 : (v == s.1) = false := by simp [c4]
              simp only [hb4, cond_false, e]
  · have : i = ws.length := by omega
    subst this
    simp [bestL]

theorem iLow_eq {k : Nat} (K : 2^42 ≤ k) {ws vals : List Int} (hl : ws.length ≤ 2^40) (hv : ws.all (inB 0 ((vals.length : Int) - 1)) = true) : impl_lowWinners.f k ws vals = some ((bestL false vals ws, ()), ()) := by
  unfold impl_lowWinners.f
  refine (impl_lowWinners.l4_for ws.length (fun i x1 x6 x9 x10 y => vals = x1 ∧ (bestRun false vals ws i).1 = x6 ∧ ws = x9 ∧ (ws.length : Int) = x10 ∧ (bestRun false vals ws i).2 = y) (fun _ _ _ _ _ _ => some ((bestL false vals ws, ()), ())) ?_ k 0 _ _ _ _ _ (Nat.zero_le _) ⟨rfl, by simp [bestRun], rfl, rfl, rfl⟩ (by omega))
  rintro i _ _ _ _ _ rec hi' ⟨rfl, rfl, rfl, rfl, rfl⟩ hrec
  unfold impl_lowWinners.s4
  by_cases h : i < ws.length
  · have hb := all_inB hv ws[i] (List.getElem_mem h)
    have e := hrec vals _ ws _ _ h ⟨rfl, rfl, rfl, rfl, rfl⟩
    have hlen := bestRun_len false vals ws i
    obtain ⟨j, hj⟩ := Int.eq_ofNat_of_zero_le hb.1
    have hj' : ws[i] = (j : Int) := hj
    have hjl : j < vals.length := by omega
    have hr : decide (((bestRun false vals ws i).2.length + 1) * 8 ≤ AM.maxBytes) = true := room (by omega) (by omega)
    have hr1 : decide (1 * 8 ≤ AM.maxBytes) = true := room (by omega) (by omega)
    rw [bestRun_succ h, hj'] at e
    obtain ⟨v, hv'⟩ : ∃ v, vals.getD j 0 = v := ⟨_, rfl⟩
    simp only [nn, ltD h, Bool.and_self, Int.toNat_natCast, getD_lt h, hj', ltD hjl, wrap_succ (show i < 2^62 by omega), cond_true, List.length_singleton, hr, hr1, beq_self_eq_true, hv']
    generalize bestRun false vals ws i = s at *
    have step : ∀ q, (if v < 0 then s else if s.1 < 0 ∨ v < s.1 then (v, [(j : Int)]) else if v = s.1 then (s.1, s.2 ++ [(j : Int)]) else s) = q → rec (vals, q.1, ws, (ws.length : Int), (i : Int) + 1, q.2) = some ((bestL false vals ws, ()), ()) := by
      intro q hq
      have : bestStep false vals s (j : Int) = q := by
        rw [← hq]
        unfold bestStep
        simp only [Int.toNat_natCast, hv', true_and, Bool.false_eq_true, false_and, false_or]
      rw [this] at e
      exact e
    clear e
    by_cases c1 : v < 0
    · have e := step s (by rw [if_pos c1])
      simp only [decide_eq_true c1, cond_true, e]
    · simp only [decide_eq_false c1, cond_false]
      by_cases c2 : s.1 < 0
      · have e := step (v, [(j : Int)]) (by rw [if_neg c1, if_pos (.inl c2)])
        simp only [decide_eq_true c2, cond_true, e]
      · simp only [decide_eq_false c2, cond_false]
        by_cases c3 : v < s.1
        · have e := step (v, [(j : Int)]) (by rw [if_neg c1, if_pos (.inr c3)])
          simp only [decide_eq_true c3, cond_true, e]
        · simp only [decide_eq_false c3, cond_false]
          by_cases c4 : v = s.1
          · have e := step (s.1, s.2 ++ [(j : Int)]) (by rw [if_neg c1, if_neg (by omega), if_pos c4])
            simp only [c4, beq_self_eq_true, cond_true, e]
          · have e := step s (by rw [if_neg c1, if_neg (by omega), if_neg c4])
            have hb4 : (v == s.1) = false := by simp [c4]
            simp only [hb4, cond_false, e]
  · have : i = ws.length := by omega
    subst this
    simp [bestL]

/-- Values that are at least -1. -/
def valsB (l : List Int) : Bool := l.all fun n => decide (-1 ≤ n)

theorem l13Values_eq {k : Nat} (K : 2^42 ≤ k) {l : List Int} (hl : l.length ≤ 2^40) (n : Int) : spec_l13Values.f k l n = some ((valsB l && ((l.length : Int) == n), ()), ()) := by
  unfold spec_l13Values.f valsB
  refine (spec_l13Values.l2_for l.length (fun _ x0 x1 => l = x0 ∧ n = x1) (fun i _ _ => some (((l.drop i).all (fun n => decide (-1 ≤ n)) && ((l.length : Int) == n), ()), ())) ?_ k 0 l n (Nat.zero_le _) ⟨rfl, rfl⟩ (by omega)).trans (by simp)
  rintro i _ _ rec hi ⟨rfl, rfl⟩ hrec
  unfold spec_l13Values.s2
  by_cases h : i < l.length
  · simp only [nn, ltD h, Bool.and_self, Int.toNat_natCast, getD_lt h, wrap_succ (show i < 2^62 by omega), cond_true, all_drop h, hrec _ _ h ⟨rfl, rfl⟩]
    by_cases c : l[i] < -1
    · simp only [decide_eq_true c, cond_true, decide_eq_false (show ¬ -1 ≤ l[i] by omega), Bool.false_and]
    · simp only [decide_eq_false c, cond_false, decide_eq_true (show -1 ≤ l[i] by omega), Bool.true_and]
  · have : i = l.length := by omega
    subst this
    simp

theorem areValues_eq {k : Nat} (K : 2^42 ≤ k) {l : List Int} (hl : l.length ≤ 2^40) : impl_areValues.f k l = some ((valsB l, ()), ()) := by
  unfold impl_areValues.f valsB
  refine (impl_areValues.i1001_i1002_l2_for l.length (fun _ x0 x7 => l = x0 ∧ (l.length : Int) = x7) (fun i _ _ => some (((l.drop i).all (fun n => decide (-1 ≤ n)), ()), ())) ?_ k 0 _ _ (Nat.zero_le _) ⟨rfl, rfl⟩ (by omega)).trans (by simp)
  rintro i _ _ rec hi ⟨rfl, rfl⟩ hrec
  unfold impl_areValues.i1001_i1002_s2 impl_areValues_1.f
  by_cases h : i < l.length
  · simp only [nn, ltD h, Bool.and_self, Int.toNat_natCast, getD_lt h, wrap_succ (show i < 2^62 by omega), cond_true, all_drop h, hrec _ _ h ⟨rfl, rfl⟩, Option.bind_some]
    by_cases c : l[i] < -1
    · have : decide ((i : Int) ≥ 0) = true := by simp
      simp only [decide_eq_true c, cond_true, decide_eq_false (show ¬ -1 ≤ l[i] by omega), Bool.false_and, this, Bool.not_true]
    · simp only [decide_eq_false c, cond_false, decide_eq_true (show -1 ≤ l[i] by omega), Bool.true_and]
  · have : i = l.length := by omega
    subst this
    simp

/-- The code of winners and values. -/
def codeR (w v : List Int) : Int := if inB 2 6 v.length = true then (if wins w v.length = true then (if valsB v = true then 0 else 2) else 1) else 2

theorem sCode_eq {k : Nat} (K : 2^42 ≤ k) {w v : List Int} (hw : w.length ≤ 2^40) (hv : v.length ≤ 2^40) : spec_l13Code.f k w v = some ((codeR w v, ()), ()) := by
  unfold spec_l13Code.f spec_l13Seats.f codeR
  simp only [l01In_eq, Option.bind_some, l13Winners_eq K hw (show (0 : Int) ≤ v.length by omega) (show (v.length : Int) ≤ 2^40 by omega), l13Values_eq K hv, beq_self_eq_true, Bool.and_true]
  cases inB 2 6 (v.length : Int) <;> cases wins w (v.length : Int) <;> cases valsB v <;> rfl

theorem iCode_eq {k : Nat} (K : 2^42 ≤ k) {w v : List Int} (hw : w.length ≤ 2^40) (hv : v.length ≤ 2^40) : impl_checkValues.f k w v = some ((codeR w v, ()), ()) := by
  unfold impl_checkValues.f codeR
  simp only [within_eq, Option.bind_some, areWinners_eq K hw (show (0 : Int) ≤ v.length by omega) (show (v.length : Int) ≤ 2^40 by omega), areValues_eq K hv]
  cases inB 2 6 (v.length : Int) <;> cases wins w (v.length : Int) <;> cases valsB v <;> rfl

theorem codeR_zero {w v : List Int} (h : codeR w v = 0) : inB 2 6 v.length = true ∧ wins w v.length = true ∧ valsB v = true := by
  unfold codeR at h
  split at h
  · split at h
    · split at h
      · exact ⟨by assumption, by assumption, by assumption⟩
      · omega
    · omega
  · omega

theorem wins_all {w : List Int} {n : Int} (h : wins w n = true) : w.all (inB 0 (n - 1)) = true := by
  simp only [wins, Bool.and_eq_true] at h; exact h.2.1

/-- What HighWinners and LowWinners return. -/
def WinR (hi : Bool) (w v : List Int) : List Int × Int := if codeR w v = 0 then (if (bestL hi v w).length = 0 then ([], 4) else (bestL hi v w, 0)) else ([], codeR w v)

theorem sSome_eq {k : Nat} (K : 2^42 ≤ k) {w v : List Int} (hw : w.length ≤ 2^40) (hv : v.length ≤ 2^40) (hi : Bool) : spec_l13Some.f k w v hi = some (((WinR hi w v).1, (WinR hi w v).2, ()), ()) := by
  unfold spec_l13Some.f WinR
  simp only [sCode_eq K hw hv, Option.bind_some]
  by_cases hc : codeR w v = 0
  · simp only [hc, bne_self_eq_false, cond_false, if_true, sBest_eq K hw (wins_all (codeR_zero hc).2.1), Option.bind_some]
    by_cases hz : (bestL hi v w).length = 0
    · simp [hz]
    · have : (((bestL hi v w).length : Int) == 0) = false := by simp only [beq_eq_false_iff_ne]; omega
      simp only [this, cond_false, if_neg hz]
  · have : (codeR w v != 0) = true := by simp [hc]
    simp only [this, cond_true, if_neg hc]

theorem iLowWinners_eq {k : Nat} (K : 2^42 ≤ k) {w v : List Int} (hw : w.length ≤ 2^40) (hv : v.length ≤ 2^40) : impl_LowWinners.f k w v = some (((WinR false w v).1, (WinR false w v).2, ()), ()) := by
  unfold impl_LowWinners.f WinR
  simp only [iCode_eq K hw hv, Option.bind_some]
  by_cases hc : codeR w v = 0
  · simp only [hc, bne_self_eq_false, cond_false, if_true, iLow_eq K hw (wins_all (codeR_zero hc).2.1), Option.bind_some]
    by_cases hz : (bestL false v w).length = 0
    · simp [hz]
    · have : (((bestL false v w).length : Int) == 0) = false := by simp only [beq_eq_false_iff_ne]; omega
      simp only [this, cond_false, if_neg hz]
  · have : (codeR w v != 0) = true := by simp [hc]
    simp only [this, cond_true, if_neg hc]

theorem sLowWinners_eq {k : Nat} (K : 2^42 ≤ k) {w v : List Int} (hw : w.length ≤ 2^40) (hv : v.length ≤ 2^40) : spec_LowWinners.f k w v = some (((WinR false w v).1, (WinR false w v).2, ()), ()) := by
  unfold spec_LowWinners.f
  simp only [sSome_eq K hw hv, Option.bind_some]

theorem WinR_len (hi : Bool) (w v : List Int) (hw : w.length ≤ 2^40) : (WinR hi w v).1.length ≤ 2^40 := by
  unfold WinR
  split
  · split
    · simp
    · have := bestRun_len hi v w w.length
      show (bestRun hi v w w.length).2.length ≤ _
      omega
  · simp

theorem FnExactLowWinners_ok (a0 : List Int) (a1 : List Int) : laws_FnExactLowWinners.f (2^42) a0 a1 = some ((true, ()), ()) := by
  unfold laws_FnExactLowWinners.f
  simp only [long]
  by_cases h1 : 1048576 < a0.length
  · simp [h1]
  by_cases h2 : 1048576 < a1.length
  · simp [h1, h2]
  have K : 2^42 ≤ 2^42 := Nat.le_refl _
  have hl : a0.length ≤ 2^40 := by omega
  have hm : a1.length ≤ 2^40 := by omega
  have hr := WinR_len false a0 a1 hl
  have e1 := markInt64S_eq K hl (a := 1) (by omega) (by omega)
  have e2 := markInt64S_eq K hm (a := 1 + a0.length) (by omega) (by omega)
  have e3 := markInt64S_eq K hr (a := 1) (by omega) (by omega)
  have e4 := heldInt64S_eq K hr (a := 1) (by omega) (by omega)
  have n1 : decide ((1 : Int) + a0.length + a1.length < 0) = false := by simp; omega
  have n2 : decide ((1 : Int) + (WinR false a0 a1).1.length < 0) = false := by simp; omega
  simp only [h1, h2, toInt64S_eq K hl, toInt64S_eq K hm, sLowWinners_eq K hl hm, iLowWinners_eq K hl hm, eqInt64S_eq K hl, eqInt64S_eq K hm, eqInt64S_eq K hr, e1, e2, e3, e4, n1, n2, Option.bind_some, decide_false, cond_false, beq_self_eq_true, Bool.not_true, bne_self_eq_false]
end Go.Sh
