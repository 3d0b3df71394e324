/- What the Lean functions compute, in plain lists and numbers; conditions stand in each lemma. -/
import Derived.Test.YtipjcodpegpocaaSFnAwards0
set_option linter.unusedVariables false
set_option linter.unusedSimpArgs false
namespace Go.Sh
open Go
theorem l01In_eq (k : Nat) (a lo hi : Int) : spec_l01In.f k a lo hi = some ((inB lo hi a, ()), ()) := by
  unfold spec_l01In.f inB
  by_cases h : lo ≤ a <;> simp [h]

theorem within_eq (k : Nat) (a lo hi : Int) : impl_within.f k a lo hi = some ((inB lo hi a, ()), ()) := by
  unfold impl_within.f inB
  by_cases h : lo ≤ a <;> simp [h]

attribute [simp] l01In_eq within_eq

theorem allWithin_eq {k : Nat} (K : 2^42 ≤ k) {l : List Int} (hl : l.length ≤ 2^40) (a b : Int) : impl_allWithin.f k l a b = some ((l.all (inB a b), ()), ()) := by
  unfold impl_allWithin.f
  refine (impl_allWithin.l2_for l.length (fun _ x1 x2 x9 x10 => a = x1 ∧ b = x2 ∧ l = x9 ∧ (l.length : Int) = x10) (fun i _ _ _ _ => some (((l.drop i).all (inB a b), ()), ())) ?_ k 0 _ _ _ _ (Nat.zero_le _) ⟨rfl, rfl, rfl, rfl⟩ (by omega)).trans (by simp)
  rintro i _ _ _ _ rec hi ⟨rfl, rfl, rfl, rfl⟩ hrec
  unfold impl_allWithin.s2
  by_cases h : i < l.length
  · simp [h, wrap_succ (show i < 2^62 by omega), all_drop h, hrec _ _ _ _ h ⟨rfl, rfl, rfl, rfl⟩]
    cases inB a b l[i] <;> simp
  · have : i = l.length := by omega
    subst this
    simp

/-- Where x stands first. -/
theorem index_eq {k : Nat} (K : 2^42 ≤ k) {l : List Int} (hl : l.length ≤ 2^40) (x : Int) : slices_Index_int64_int64.f k l x = some ((if x ∈ l then ((l.idxOf x : Nat) : Int) else -1, ()), ()) := by
  unfold slices_Index_int64_int64.f
  refine (slices_Index_int64_int64.l2_for l.length (fun i x0 x1 x7 => l = x0 ∧ x = x1 ∧ (l.length : Int) = x7 ∧ ∀ j, j < i → l.getD j 0 ≠ x) (fun i _ _ _ => some ((if x ∈ l then ((l.idxOf x : Nat) : Int) else -1, ()), ())) ?_ k 0 _ _ _ (Nat.zero_le _) ⟨rfl, rfl, rfl, fun j hj => by omega⟩ (by omega))
  rintro i _ _ _ rec hi ⟨rfl, rfl, rfl, hno⟩ hrec
  unfold slices_Index_int64_int64.s2
  by_cases h : i < l.length
  · by_cases hx : x = l[i]
    · have hm : x ∈ l := hx ▸ List.getElem_mem h
      have hidx : l.idxOf x = i := idxOf_first h hx.symm (fun j hj => by have := hno j hj; rwa [getD_lt (show j < l.length by omega)] at this)
      simp [h, hx.symm, hm, hidx]
    · have hb : (x == l[i]) = false := by simp [hx]
      simp only [Int.toNat_natCast, getD_lt h, hb, nn, ltD h, Bool.and_self, wrap_succ (show i < 2^62 by omega), cond_true, cond_false]
      refine hrec _ _ _ h ⟨rfl, rfl, rfl, fun j hj => ?_⟩
      rcases Nat.lt_or_ge j i with e | e
      · exact hno j e
      · have : j = i := by omega
        subst this
        rw [getD_lt h]
        exact fun e => hx e.symm
  · have : i = l.length := by omega
    subst this
    have hm : x ∉ l := by
      intro hm
      obtain ⟨j, hj, e⟩ := List.mem_iff_getElem.1 hm
      exact hno j hj (by rw [getD_lt hj]; exact e)
    simp [hm]

theorem l01Has_eq {k : Nat} (K : 2^42 ≤ k) {l : List Int} (hl : l.length ≤ 2^40) (x : Int) : spec_l01Has.f k l x = some ((decide (x ∈ l), ()), ()) := by
  unfold spec_l01Has.f
  refine (spec_l01Has.l2_for l.length (fun i x0 x1 => l = x0 ∧ x = x1) (fun i _ _ => some ((decide (x ∈ l.drop i), ()), ())) ?_ k 0 _ _ (Nat.zero_le _) ⟨rfl, rfl⟩ (by omega)).trans (by simp)
  rintro i _ _ rec hi ⟨rfl, rfl⟩ hrec
  unfold spec_l01Has.s2
  by_cases h : i < l.length
  · simp only [nn, ltD h, Bool.and_self, Int.toNat_natCast, getD_lt h, wrap_succ (show i < 2^62 by omega), cond_true, hrec _ _ h ⟨rfl, rfl⟩]
    have e : (x ∈ l.drop i) ↔ (l[i] = x ∨ x ∈ l.drop (i + 1)) := by
      rw [List.drop_eq_getElem_cons h, List.mem_cons]
      exact ⟨fun h => h.imp Eq.symm id, fun h => h.imp Eq.symm id⟩
    by_cases hx : l[i] = x
    · simp [hx, e]
    · have hb : (l[i] == x) = false := by simp [hx]
      simp [hx, e, hb]
  · have : i = l.length := by omega
    subst this
    simp

theorem contains_eq {k : Nat} (K : 2^42 ≤ k) {l : List Int} (hl : l.length ≤ 2^40) (x : Int) : slices_Contains_int64_int64.f k l x = some ((decide (x ∈ l), ()), ()) := by
  unfold slices_Contains_int64_int64.f
  rw [index_eq K hl]
  by_cases h : x ∈ l <;> simp [h]

/-- Strictly rising. -/
def risesB : List Int → Bool
  | x :: y :: l => decide (x < y) && risesB (y :: l)
  | _ => true

theorem rises_drop {l : List Int} {i : Nat} (h : i + 1 < l.length) : risesB (l.drop i) = (decide (l[i] < l[i + 1]) && risesB (l.drop (i + 1))) := by
  rw [List.drop_eq_getElem_cons (show i < l.length by omega), List.drop_eq_getElem_cons h, risesB]

theorem rises_last {l : List Int} {i : Nat} (h : l.length ≤ i + 1) : risesB (l.drop i) = true := by
  have : (l.drop i).length ≤ 1 := by rw [List.length_drop]; omega
  match hd : l.drop i, this with
  | [], _ => rfl
  | [_], _ => rfl

theorem increasing_eq {k : Nat} (K : 2^42 ≤ k) {l : List Int} (hl : l.length ≤ 2^40) (h0 : 0 < l.length) : impl_increasing.f k l = some ((risesB l, ()), ()) := by
  unfold impl_increasing.f
  refine (impl_increasing.l2_for l.length (fun i x0 => l = x0 ∧ 1 ≤ i) (fun i _ => some ((risesB (l.drop (i - 1)), ()), ())) ?_ k 1 _ (by omega) ⟨rfl, by omega⟩ (by omega)).trans (by simp)
  rintro i _ rec hi ⟨rfl, h1⟩ hrec
  unfold impl_increasing.s2
  by_cases h : i < l.length
  · have hp : i - 1 < l.length := by omega
    have e : risesB (l.drop (i - 1)) = (decide (l[i - 1] < l[i]) && risesB (l.drop i)) := by
      have e1 : i - 1 + 1 = i := by omega
      have := rises_drop (l := l) (i := i - 1) (by omega)
      simp only [e1] at this
      exact this
    simp only [wrap_pred (show i < 2^62 by omega) (by omega), nn, ltD h, ltD hp, Bool.and_self, Int.toNat_natCast, getD_lt h, getD_lt hp, wrap_succ (show i < 2^62 by omega), cond_true, hrec _ h ⟨rfl, by omega⟩, e, Nat.add_sub_cancel]
    by_cases hx : l[i - 1] < l[i]
    · simp [hx, show ¬ l[i] ≤ l[i - 1] by omega]
    · simp [hx, show l[i] ≤ l[i - 1] by omega]
  · have : i = l.length := by omega
    subst this
    simp [rises_last (l := l) (i := l.length - 1) (by omega)]

theorem l01Rises_eq {k : Nat} (K : 2^42 ≤ k) {l : List Int} (hl : l.length ≤ 2^40) {n : Int} (h0 : 0 ≤ n) (h1 : n ≤ 2^40) : spec_l01Rises.f k l n = some ((l.all (inB 0 (n - 1)) && risesB l, ()), ()) := by
  unfold spec_l01Rises.f
  have hw : IntKind.wrap .i64 (n - 1) = n - 1 := wrap_id (by omega) (by omega)
  refine (spec_l01Rises.l2_for l.length (fun i x0 x1 => l = x0 ∧ n = x1) (fun i _ _ => some (((l.drop i).all (inB 0 (n - 1)) && risesB (l.drop (i - 1)), ()), ())) ?_ k 0 _ _ (by omega) ⟨rfl, rfl⟩ (by omega)).trans (by simp)
  rintro i _ _ rec hi ⟨rfl, rfl⟩ hrec
  unfold spec_l01Rises.s2
  by_cases h : i < l.length
  · simp only [hw, l01In_eq, nn, ltD h, Bool.and_self, Int.toNat_natCast, getD_lt h, wrap_succ (show i < 2^62 by omega), cond_true, hrec _ _ h ⟨rfl, rfl⟩, Option.bind_some, all_drop h, Nat.add_sub_cancel]
    cases hb : inB 0 (n - 1) l[i] with
    | false => simp
    | true =>
      simp only [Bool.not_true, cond_false, Bool.true_and]
      rcases Nat.eq_zero_or_pos i with e0 | e0
      · subst e0
        simp
      · have hp : i - 1 < l.length := by omega
        have e : risesB (l.drop (i - 1)) = (decide (l[i - 1] < l[i]) && risesB (l.drop i)) := by
          have e1 : i - 1 + 1 = i := by omega
          have := rises_drop (l := l) (i := i - 1) (by omega)
          simp only [e1] at this
          exact this
        have hpos : decide ((i : Int) > 0) = true := by simp; exact e0
        simp only [hpos, cond_true, wrap_pred (show i < 2^62 by omega) (by omega), nn, ltD hp, Bool.and_self, Int.toNat_natCast, getD_lt hp, e]
        by_cases hx : l[i - 1] < l[i]
        · simp [hx, show ¬ l[i] ≤ l[i - 1] by omega]
        · simp [hx, show l[i] ≤ l[i - 1] by omega]
  · have : i = l.length := by omega
    subst this
    simp [rises_last (l := l) (i := l.length - 1) (by omega)]

/-- Seats of a pot. -/
def wins (w : List Int) (n : Int) : Bool := decide (0 < w.length) && (w.all (inB 0 (n - 1)) && risesB w)

theorem l13Winners_eq {k : Nat} (K : 2^42 ≤ k) {l : List Int} (hl : l.length ≤ 2^40) {n : Int} (h0 : 0 ≤ n) (h1 : n ≤ 2^40) : spec_l13Winners.f k l n = some ((wins l n, ()), ()) := by
  unfold spec_l13Winners.f wins
  rw [l01Rises_eq K hl h0 h1]
  by_cases h : 0 < l.length <;> simp [h]

theorem areWinners_eq {k : Nat} (K : 2^42 ≤ k) {l : List Int} (hl : l.length ≤ 2^40) {n : Int} (h0 : 0 ≤ n) (h1 : n ≤ 2^40) : impl_areWinners.f k l n = some ((wins l n, ()), ()) := by
  unfold impl_areWinners.f wins
  have hw : IntKind.wrap .i64 (n - 1) = n - 1 := wrap_id (by omega) (by omega)
  by_cases h : 0 < l.length
  · have e : decide ((l.length : Int) > 0) = true := decide_eq_true (by omega)
    simp only [e, cond_true, hw, allWithin_eq K hl, Option.bind_some, h, decide_true, Bool.true_and]
    cases hb : l.all (inB 0 (n - 1)) with
    | false => simp
    | true => simp [increasing_eq K hl h]
  · have e : decide ((l.length : Int) > 0) = false := decide_eq_false (by omega)
    simp [e, h]

/-- One seat's turn: what is left over, and the shares. -/
def spStep (w : List Int) (S F : Nat) (q : Int) (s : Int × List Int) (i : Nat) : Int × List Int :=
  if (((F + i) % S : Nat) : Int) ∈ w then (if s.1 > 0 then (s.1 - 1, s.2.set ((F + i) % S) (q + 1)) else (s.1, s.2.set ((F + i) % S) q)) else s

def spRun (w : List Int) (S F : Nat) (a : Int) (i : Nat) : Int × List Int := (List.range i).foldl (spStep w S F (a.tdiv w.length)) (a.tmod w.length, List.replicate S 0)

/-- The shares. -/
def splitL (w : List Int) (S F : Nat) (a : Int) : List Int := (spRun w S F a S).2

theorem spRun_succ (w : List Int) (S F : Nat) (a : Int) (i : Nat) : spRun w S F a (i + 1) = spStep w S F (a.tdiv w.length) (spRun w S F a i) i := by
  unfold spRun; rw [List.range_succ, List.foldl_append]; rfl

theorem spStep_len (w : List Int) (S F : Nat) (q : Int) (s : Int × List Int) (i : Nat) : (spStep w S F q s i).2.length = s.2.length := by
  unfold spStep; split
  · split <;> simp
  · rfl

theorem spRun_len (w : List Int) (S F : Nat) (a : Int) : ∀ i, (spRun w S F a i).2.length = S
  | 0 => by simp [spRun]
  | i + 1 => by rw [spRun_succ, spStep_len, spRun_len w S F a i]

theorem spRun_rest (w : List Int) (S F : Nat) {a : Int} (h0 : 0 ≤ a) : ∀ i, 0 ≤ (spRun w S F a i).1 ∧ (spRun w S F a i).1 ≤ a
  | 0 => by
    simp only [spRun, List.range_zero, List.foldl_nil]
    obtain ⟨m, rfl⟩ := Int.eq_ofNat_of_zero_le h0
    have e : Int.tmod (m : Int) (w.length : Int) = ((m % w.length : Nat) : Int) := (Int.ofNat_tmod m w.length).symm
    rw [e]
    have := Nat.mod_le m w.length
    omega
  | i + 1 => by
    have := spRun_rest w S F h0 i
    rw [spRun_succ]
    unfold spStep
    split
    · split
      · simp only; omega
      · exact this
    · exact this

theorem div_le {a : Int} {n : Nat} (h0 : 0 ≤ a) : 0 ≤ a.tdiv n ∧ a.tdiv n ≤ a := ⟨Int.tdiv_nonneg h0 (Int.natCast_nonneg n), Int.tdiv_le_self _ h0⟩

theorem tmod_seat {S F i : Nat} (hF : F < 2^40) (hi : i < 2^40) : Int.tmod (IntKind.wrap .i64 ((F : Int) + (i : Int))) (S : Int) = (((F + i) % S : Nat) : Int) := by
  rw [wrap_id (by omega) (by omega)]
  exact (Int.ofNat_tmod (F + i) S).symm

theorem sSplit_eq {k : Nat} (K : 2^42 ≤ k) {w : List Int} (hl : w.length ≤ 2^40) (hw : 0 < w.length) {a : Int} (ha : 0 ≤ a) (ha' : a ≤ 2^40) {S F : Nat} (hS : 0 < S) (hS' : S ≤ 2^20) (hF : F < 2^40) :
    spec_l13Split.f k a w (S : Int) (F : Int) = some ((splitL w S F a, ()), ()) := by
  unfold spec_l13Split.f
  have hm : decide ((S : Int) * ((8 : Nat) : Int) ≤ (AM.maxBytes : Int)) = true := by unfold AM.maxBytes; simp; omega
  have hn : decide ((w.length : Int) = 0) = false := decide_eq_false (by omega)
  simp only [nn, Int.le_refl, decide_true, hm, Bool.and_self, cond_true, hn, Bool.not_false, Int.toNat_natCast]
  refine (spec_l13Split.l5_for S (fun i x0 x1 x2 x3 x10 x11 y => a = x0 ∧ w = x1 ∧ (S : Int) = x2 ∧ (F : Int) = x3 ∧ (w.length : Int) = x10 ∧ (spRun w S F a i).1 = x11 ∧ (spRun w S F a i).2 = y) (fun _ _ _ _ _ _ _ _ => some ((splitL w S F a, ()), ())) ?_ k 0 _ _ _ _ _ _ _ (Nat.zero_le _) ⟨rfl, rfl, rfl, rfl, rfl, rfl, rfl⟩ (by omega))
  rintro i _ _ _ _ _ _ _ rec hi ⟨rfl, rfl, rfl, rfl, rfl, rfl, rfl⟩ hrec
  unfold spec_l13Split.s5
  by_cases h : i < S
  · have ht : (F + i) % S < S := Nat.mod_lt _ hS
    have hlen := spRun_len w S F a i
    have hrest := spRun_rest w S F ha i
    have hq := div_le (n := w.length) ha
    have hS0 : decide ((S : Int) = 0) = false := decide_eq_false (by omega)
    have e := hrec a w (S : Int) (F : Int) (w.length : Int) _ _ h ⟨rfl, rfl, rfl, rfl, rfl, rfl, rfl⟩
    have hwq : IntKind.wrap .i64 (a.tdiv w.length) = a.tdiv w.length := wrap_id (by omega) (by omega)
    have hwq1 : IntKind.wrap .i64 (a.tdiv w.length + 1) = a.tdiv w.length + 1 := wrap_id (by omega) (by omega)
    have hwr : IntKind.wrap .i64 ((spRun w S F a i).1 - 1) = (spRun w S F a i).1 - 1 := wrap_id (by omega) (by omega)
    have htl : (F + i) % S < (spRun w S F a i).2.length := by omega
    simp only [ltD h, tmod_seat hF (show i < 2^40 by omega), hS0, hn, Bool.not_false, cond_true, l01Has_eq K hl, Option.bind_some, nn, hlen, ltD ht, Bool.and_self, Int.toNat_natCast, List.length_set, decide_eq_true ht, hwq, hwr, wrap_succ (show i < 2^62 by omega)]
    rw [spRun_succ] at e
    unfold spStep at e
    by_cases hin : (((F + i) % S : Nat) : Int) ∈ w
    · simp only [hin, decide_true, cond_true]
      rw [if_pos hin] at e
      by_cases hr : (spRun w S F a i).1 > 0
      · rw [if_pos hr] at e
        have hg : ((spRun w S F a i).2.set ((F + i) % S) (a.tdiv w.length)).getD ((F + i) % S) 0 = a.tdiv w.length := by
          rw [getD_lt (by rw [List.length_set]; omega)]; simp
        simp only [decide_eq_true hr, cond_true, hg, hwq1, List.set_set]
        exact e
      · rw [if_neg hr] at e
        simp only [decide_eq_false hr, cond_false]
        exact e
    · simp only [hin, decide_false, cond_false]
      rw [if_neg hin] at e
      exact e
  · have : i = S := by omega
    subst this
    simp [splitL]

theorem iSplit_eq {k : Nat} (K : 2^42 ≤ k) {w : List Int} (hl : w.length ≤ 2^40) (hw : 0 < w.length) {a : Int} (ha : 0 ≤ a) (ha' : a ≤ 2^40) {S F : Nat} (hS : 0 < S) (hS' : S ≤ 2^20) (hF : F < 2^40) :
    impl_splitChips.f k a w (S : Int) (F : Int) = some ((splitL w S F a, ()), ()) := by
  unfold impl_splitChips.f
  have hm : decide ((S : Int) * ((8 : Nat) : Int) ≤ (AM.maxBytes : Int)) = true := by unfold AM.maxBytes; simp; omega
  have hn : decide ((w.length : Int) = 0) = false := decide_eq_false (by omega)
  simp only [nn, Int.le_refl, decide_true, hm, Bool.and_self, cond_true, hn, Bool.not_false, Int.toNat_natCast]
  refine (impl_splitChips.l5_for S (fun i x0 x1 x2 x3 x10 x11 x21 y => a = x0 ∧ w = x1 ∧ (S : Int) = x2 ∧ (F : Int) = x3 ∧ (w.length : Int) = x10 ∧ (spRun w S F a i).1 = x11 ∧ (S : Int) = x21 ∧ (spRun w S F a i).2 = y) (fun _ _ _ _ _ _ _ _ _ => some ((splitL w S F a, ()), ())) ?_ k 0 _ _ _ _ _ _ _ _ (Nat.zero_le _) ⟨rfl, rfl, rfl, rfl, rfl, rfl, rfl, rfl⟩ (by omega))
  rintro i _ _ _ _ _ _ _ _ rec hi ⟨rfl, rfl, rfl, rfl, rfl, rfl, rfl, rfl⟩ hrec
  unfold impl_splitChips.s5
  by_cases h : i < S
  · have ht : (F + i) % S < S := Nat.mod_lt _ hS
    have hlen := spRun_len w S F a i
    have hrest := spRun_rest w S F ha i
    have hq := div_le (n := w.length) ha
    have hS0 : decide ((S : Int) = 0) = false := decide_eq_false (by omega)
    have e := hrec a w (S : Int) (F : Int) (w.length : Int) _ (S : Int) _ h ⟨rfl, rfl, rfl, rfl, rfl, rfl, rfl, rfl⟩
    have hwq : IntKind.wrap .i64 (a.tdiv w.length) = a.tdiv w.length := wrap_id (by omega) (by omega)
    have hwq1 : IntKind.wrap .i64 (a.tdiv w.length + 1) = a.tdiv w.length + 1 := wrap_id (by omega) (by omega)
    have hwr : IntKind.wrap .i64 ((spRun w S F a i).1 - 1) = (spRun w S F a i).1 - 1 := wrap_id (by omega) (by omega)
    have htl : (F + i) % S < (spRun w S F a i).2.length := by omega
    simp only [ltD h, tmod_seat hF (show i < 2^40 by omega), hS0, hn, Bool.not_false, cond_true, contains_eq K hl, Option.bind_some, nn, hlen, ltD ht, Bool.and_self, Int.toNat_natCast, List.length_set, decide_eq_true ht, hwq, hwr, wrap_succ (show i < 2^62 by omega)]
    rw [spRun_succ] at e
    unfold spStep at e
    by_cases hin : (((F + i) % S : Nat) : Int) ∈ w
    · simp only [hin, decide_true, Bool.not_true, cond_false]
      rw [if_pos hin] at e
      by_cases hr : (spRun w S F a i).1 > 0
      · rw [if_pos hr] at e
        have hg : ((spRun w S F a i).2.set ((F + i) % S) (a.tdiv w.length)).getD ((F + i) % S) 0 = a.tdiv w.length := by
          rw [getD_lt (by rw [List.length_set]; omega)]; simp
        simp only [decide_eq_true hr, cond_true, hg, hwq1, List.set_set]
        exact e
      · rw [if_neg hr] at e
        simp only [decide_eq_false hr, cond_false]
        exact e
    · simp only [hin, decide_false, Bool.not_false, cond_true]
      rw [if_neg hin] at e
      exact e
  · have : i = S := by omega
    subst this
    simp [splitL]

theorem inB_iff {a b x : Int} : inB a b x = true ↔ a ≤ x ∧ x ≤ b := by simp [inB]

theorem wins_pos {w : List Int} {n : Int} (h : wins w n = true) : 0 < w.length := by simp only [wins, Bool.and_eq_true, decide_eq_true_eq] at h; exact h.1

/-- One seat's turn: the best value so far (below 0: none), and who has it. -/
def bestStep (hi : Bool) (vals : List Int) (s : Int × List Int) (w : Int) : Int × List Int :=
  if vals.getD w.toNat 0 < 0 then s else if s.1 < 0 ∨ (hi = true ∧ vals.getD w.toNat 0 > s.1) ∨ (hi = false ∧ vals.getD w.toNat 0 < s.1) then (vals.getD w.toNat 0, [w]) else if vals.getD w.toNat 0 = s.1 then (s.1, s.2 ++ [w]) else s

def bestRun (hi : Bool) (vals ws : List Int) (i : Nat) : Int × List Int := (ws.take i).foldl (bestStep hi vals) (-1, [])

def bestL (hi : Bool) (vals ws : List Int) : List Int := (bestRun hi vals ws ws.length).2

theorem bestRun_succ {hi : Bool} {vals ws : List Int} {i : Nat} (h : i < ws.length) : bestRun hi vals ws (i + 1) = bestStep hi vals (bestRun hi vals ws i) ws[i] := by
  unfold bestRun; rw [← List.take_append_getElem h, List.foldl_append]; rfl

theorem bestRun_len (hi : Bool) (vals ws : List Int) : ∀ i, (bestRun hi vals ws i).2.length ≤ i
  | 0 => by simp [bestRun]
  | i + 1 => by
    by_cases h : i < ws.length
    · have := bestRun_len hi vals ws i
      rw [bestRun_succ h]
      unfold bestStep
      split
      · omega
      · split
        · simp
        · split
          · simp; omega
          · omega
    · have e : ws.take (i + 1) = ws.take i := by rw [List.take_of_length_le (by omega), List.take_of_length_le (by omega)]
      unfold bestRun at *
      rw [e]
      have := bestRun_len hi vals ws i
      unfold bestRun at this
      omega

theorem sBest_eq {k : Nat} (K : 2^42 ≤ k) {ws vals : List Int} (hl : ws.length ≤ 2^40) (hv : ws.all (inB 0 ((vals.length : Int) - 1)) = true) (hi : Bool) : spec_l13Best.f k ws vals hi = some ((bestL hi vals ws, ()), ()) := by
  unfold spec_l13Best.f
  refine (spec_l13Best.l4_for ws.length (fun i x0 x1 x2 x8 y => ws = x0 ∧ vals = x1 ∧ hi = x2 ∧ (bestRun hi vals ws i).1 = x8 ∧ (bestRun hi vals ws i).2 = y) (fun _ _ _ _ _ _ => some ((bestL hi vals ws, ()), ())) ?_ k 0 _ _ _ _ _ (Nat.zero_le _) ⟨rfl, rfl, rfl, rfl, rfl⟩ (by omega))
  rintro i _ _ _ _ _ rec hi' ⟨rfl, rfl, rfl, rfl, rfl⟩ hrec
  unfold spec_l13Best.s4
  by_cases h : i < ws.length
  · have hb := all_inB hv ws[i] (List.getElem_mem h)
    have e := hrec ws vals hi _ _ h ⟨rfl, rfl, rfl, rfl, rfl⟩
    rw [bestRun_succ h] at e
    unfold bestStep at e
    have hlen := bestRun_len hi vals ws i
    obtain ⟨j, hj⟩ := Int.eq_ofNat_of_zero_le hb.1
    have hj' : ws[i] = (j : Int) := hj
    have hjl : j < vals.length := by omega
    have hr : decide (((bestRun hi vals ws i).2.length + 1) * 8 ≤ AM.maxBytes) = true := room (by omega) (by omega)
    rw [hj'] at e
    simp only [Int.toNat_natCast] at e
    simp only [nn, ltD h, Bool.and_self, Int.toNat_natCast, getD_lt h, hj', ltD hjl, wrap_succ (show i < 2^62 by omega), cond_true, List.length_singleton, hr]
    generalize bestRun hi vals ws i = s at *
    obtain ⟨v, hv'⟩ : ∃ v, vals.getD j 0 = v := ⟨_, rfl⟩
    simp only [hv'] at e ⊢
    by_cases c1 : v < 0
    · rw [if_pos c1] at e
      simp only [decide_eq_true c1, cond_true, e]
    · rw [if_neg c1] at e
      simp only [decide_eq_false c1, cond_false]
      by_cases c2 : s.1 < 0
      · rw [if_pos (.inl c2)] at e
        simp only [decide_eq_true c2, cond_true, e]
      · simp only [decide_eq_false c2, cond_false]
        cases hi with
        | true =>
          by_cases c3 : v > s.1
          · rw [if_pos (.inr (.inl ⟨rfl, c3⟩))] at e
            simp only [decide_eq_true c3, cond_true, e]
          · rw [if_neg (by simp; omega)] at e
            simp only [decide_eq_false c3, cond_true, cond_false, Bool.not_true]
            by_cases c4 : v = s.1
            · rw [if_pos c4] at e
              simp only [c4, beq_self_eq_true, cond_true, e]
            · rw [if_neg c4] at e
              have hb4 : (v == s.1) = false := by simp [c4]
              simp only [hb4, cond_false, e]
        | false =>
          by_cases c3 : v < s.1
          · rw [if_pos (.inr (.inr ⟨rfl, c3⟩))] at e
            simp only [decide_eq_true c3, cond_true, cond_false, Bool.not_false, e]
          · rw [if_neg (by simp; omega)] at e
            simp only [decide_eq_false c3, cond_true, cond_false, Bool.not_false]
            by_cases c4 : v = s.1
            · rw [if_pos c4] at e
              simp only [c4, beq_self_eq_true, cond_true, e]
            · rw [if_neg c4] at e
              have hb4 : (v == s.1) = false := by simp [c4]
              simp only [hb4, cond_false, e]
  · have : i = ws.length := by omega
    subst this
    simp [bestL]

theorem bestRun_low (vals ws : List Int) : ∀ i, (bestRun true vals ws i).1 < 0 → (bestRun true vals ws i).2 = []
  | 0 => by simp [bestRun]
  | i + 1 => by
    by_cases h : i < ws.length
    · have := bestRun_low vals ws i
      rw [bestRun_succ h]
      unfold bestStep
      split
      · exact this
      · split
        · intro hlt; simp only at hlt; omega
        · rename_i c1 c2
          split
          · intro hlt; simp only at hlt; exact absurd (.inl hlt) c2
          · intro hlt; exact absurd (.inl hlt) c2
    · have e : ws.take (i + 1) = ws.take i := by rw [List.take_of_length_le (by omega), List.take_of_length_le (by omega)]
      have := bestRun_low vals ws i
      unfold bestRun at *
      rw [e]
      exact this

theorem iHigh_eq {k : Nat} (K : 2^42 ≤ k) {ws vals : List Int} (hl : ws.length ≤ 2^40) (hv : ws.all (inB 0 ((vals.length : Int) - 1)) = true) : impl_highWinners.f k ws vals = some ((bestL true vals ws, ()), ()) := by
  unfold impl_highWinners.f
  refine (impl_highWinners.l4_for ws.length (fun i x1 x6 x9 x10 y => vals = x1 ∧ max 0 (bestRun true vals ws i).1 = x6 ∧ ws = x9 ∧ (ws.length : Int) = x10 ∧ (bestRun true vals ws i).2 = y) (fun _ _ _ _ _ _ => some ((bestL true vals ws, ()), ())) ?_ k 0 _ _ _ _ _ (Nat.zero_le _) ⟨rfl, rfl, rfl, rfl, rfl⟩ (by omega))
  rintro i _ _ _ _ _ rec hi' ⟨rfl, rfl, rfl, rfl, rfl⟩ hrec
  unfold impl_highWinners.s4
  by_cases h : i < ws.length
  · have hb := all_inB hv ws[i] (List.getElem_mem h)
    have e := hrec vals _ ws _ _ h ⟨rfl, rfl, rfl, rfl, rfl⟩
    have hlen := bestRun_len true vals ws i
    have hlow := bestRun_low vals ws i
    obtain ⟨j, hj⟩ := Int.eq_ofNat_of_zero_le hb.1
    have hj' : ws[i] = (j : Int) := hj
    have hjl : j < vals.length := by omega
    have hr : decide (((bestRun true vals ws i).2.length + 1) * 8 ≤ AM.maxBytes) = true := room (by omega) (by omega)
    have hr1 : decide (1 * 8 ≤ AM.maxBytes) = true := room (by omega) (by omega)
    rw [bestRun_succ h, hj'] at e
    obtain ⟨v, hv'⟩ : ∃ v, vals.getD j 0 = v := ⟨_, rfl⟩
    simp only [nn, ltD h, Bool.and_self, Int.toNat_natCast, getD_lt h, hj', ltD hjl, wrap_succ (show i < 2^62 by omega), cond_true, List.length_singleton, hr, hr1, beq_self_eq_true, hv']
    generalize bestRun true vals ws i = s at *
    have step : ∀ q, (if v < 0 then s else if s.1 < 0 ∨ v > s.1 then (v, [(j : Int)]) else if v = s.1 then (s.1, s.2 ++ [(j : Int)]) else s) = q → rec (vals, max 0 q.1, ws, (ws.length : Int), (i : Int) + 1, q.2) = some ((bestL true vals ws, ()), ()) := by
      intro q hq
      have : bestStep true vals s (j : Int) = q := by
        rw [← hq]
        unfold bestStep
        simp only [Int.toNat_natCast, hv', true_and, Bool.true_eq_false, false_and, or_false]
      rw [this] at e
      exact e
    clear e
    by_cases c1 : v < 0
    · have e := step s (by rw [if_pos c1])
      have c3 : ¬ v > max 0 s.1 := by omega
      have c4 : (v == max 0 s.1) = false := by simp only [beq_eq_false_iff_ne]; omega
      simp only [decide_eq_false c3, c4, cond_false, e]
    · by_cases c2 : s.1 < 0
      · have e := step (v, [(j : Int)]) (by rw [if_neg c1, if_pos (.inl c2)])
        have hm : max 0 s.1 = 0 := by omega
        simp only [hm]
        have hmv : max 0 v = v := by omega
        simp only [hmv] at e
        by_cases c3 : v > 0
        · simp only [decide_eq_true c3, cond_true, e]
        · have : v = 0 := by omega
          subst this
          have hnil := hlow c2
          simp only [hnil, Int.lt_irrefl, decide_false, cond_false, beq_self_eq_true, cond_true, List.nil_append, gt_iff_lt, e]
      · have hm : max 0 s.1 = s.1 := by omega
        simp only [hm]
        by_cases c3 : v > s.1
        · have e := step (v, [(j : Int)]) (by rw [if_neg c1, if_pos (.inr c3)])
          have hmv : max 0 v = v := by omega
          simp only [hmv] at e
          simp only [decide_eq_true c3, cond_true, e]
        · by_cases c4 : v = s.1
          · have e := step (s.1, s.2 ++ [(j : Int)]) (by rw [if_neg c1, if_neg (by omega), if_pos c4])
            simp only [hm] at e
            simp only [decide_eq_false c3, cond_false, c4, beq_self_eq_true, cond_true, e]
            simp only [Int.lt_irrefl, gt_iff_lt, decide_false, cond_false]
          · have e := step s (by rw [if_neg c1, if_neg (by omega), if_neg c4])
            simp only [hm] at e
            have hb4 : (v == s.1) = false := by simp [c4]
            simp only [decide_eq_false c3, cond_false, hb4, e]
  · have : i = ws.length := by omega
    subst this
    simp [bestL]

theorem iLow_eq {k : Nat} (K : 2^42 ≤ k) {ws vals : List Int} (hl : ws.length ≤ 2^40) (hv : ws.all (inB 0 ((vals.length : Int) - 1)) = true) : impl_lowWinners.f k ws vals = some ((bestL false vals ws, ()), ()) := by
  unfold impl_lowWinners.f
  refine (impl_lowWinners.l4_for ws.length (fun i x1 x6 x9 x10 y => vals = x1 ∧ (bestRun false vals ws i).1 = x6 ∧ ws = x9 ∧ (ws.length : Int) = x10 ∧ (bestRun false vals ws i).2 = y) (fun _ _ _ _ _ _ => some ((bestL false vals ws, ()), ())) ?_ k 0 _ _ _ _ _ (Nat.zero_le _) ⟨rfl, by simp [bestRun], rfl, rfl, rfl⟩ (by omega))
  rintro i _ _ _ _ _ rec hi' ⟨rfl, rfl, rfl, rfl, rfl⟩ hrec
  unfold impl_lowWinners.s4
  by_cases h : i < ws.length
  · have hb := all_inB hv ws[i] (List.getElem_mem h)
    have e := hrec vals _ ws _ _ h ⟨rfl, rfl, rfl, rfl, rfl⟩
    have hlen := bestRun_len false vals ws i
    obtain ⟨j, hj⟩ := Int.eq_ofNat_of_zero_le hb.1
    have hj' : ws[i] = (j : Int) := hj
    have hjl : j < vals.length := by omega
    have hr : decide (((bestRun false vals ws i).2.length + 1) * 8 ≤ AM.maxBytes) = true := room (by omega) (by omega)
    have hr1 : decide (1 * 8 ≤ AM.maxBytes) = true := room (by omega) (by omega)
    rw [bestRun_succ h, hj'] at e
    obtain ⟨v, hv'⟩ : ∃ v, vals.getD j 0 = v := ⟨_, rfl⟩
    simp only [nn, ltD h, Bool.and_self, Int.toNat_natCast, getD_lt h, hj', ltD hjl, wrap_succ (show i < 2^62 by omega), cond_true, List.length_singleton, hr, hr1, beq_self_eq_true, hv']
    generalize bestRun false vals ws i = s at *
    have step : ∀ q, (if v < 0 then s else if s.1 < 0 ∨ v < s.1 then (v, [(j : Int)]) else if v = s.1 then (s.1, s.2 ++ [(j : Int)]) else s) = q → rec (vals, q.1, ws, (ws.length : Int), (i : Int) + 1, q.2) = some ((bestL false vals ws, ()), ()) := by
      intro q hq
      have : bestStep false vals s (j : Int) = q := by
        rw [← hq]
        unfold bestStep
        simp only [Int.toNat_natCast, hv', true_and, Bool.false_eq_true, false_and, false_or]
      rw [this] at e
      exact e
    clear e
    by_cases c1 : v < 0
    · have e := step s (by rw [if_pos c1])
      simp only [decide_eq_true c1, cond_true, e]
    · simp only [decide_eq_false c1, cond_false]
      by_cases c2 : s.1 < 0
      · have e := step (v, [(j : Int)]) (by rw [if_neg c1, if_pos (.inl c2)])
        simp only [decide_eq_true c2, cond_true, e]
      · simp only [decide_eq_false c2, cond_false]
        by_cases c3 : v < s.1
        · have e := step (v, [(j : Int)]) (by rw [if_neg c1, if_pos (.inr c3)])
          simp only [decide_eq_true c3, cond_true, e]
        · simp only [decide_eq_false c3, cond_false]
          by_cases c4 : v = s.1
          · have e := step (s.1, s.2 ++ [(j : Int)]) (by rw [if_neg c1, if_neg (by omega), if_pos c4])
            simp only [c4, beq_self_eq_true, cond_true, e]
          · have e := step s (by rw [if_neg c1, if_neg (by omega), if_neg c4])
            have hb4 : (v == s.1) = false := by simp [c4]
            simp only [hb4, cond_false, e]
  · have : i = ws.length := by omega
    subst this
    simp [bestL]

/-- Values that are at least -1. -/
def valsB (l : List Int) : Bool := l.all fun n => decide (-1 ≤ n)

theorem l13Values_eq {k : Nat} (K : 2^42 ≤ k) {l : List Int} (hl : l.length ≤ 2^40) (n : Int) : spec_l13Values.f k l n = some ((valsB l && ((l.length : Int) == n), ()), ()) := by
  unfold spec_l13Values.f valsB
  refine (spec_l13Values.l2_for l.length (fun _ x0 x1 => l = x0 ∧ n = x1) (fun i _ _ => some (((l.drop i).all (fun n => decide (-1 ≤ n)) && ((l.length : Int) == n), ()), ())) ?_ k 0 l n (Nat.zero_le _) ⟨rfl, rfl⟩ (by omega)).trans (by simp)
  rintro i _ _ rec hi ⟨rfl, rfl⟩ hrec
  unfold spec_l13Values.s2
  by_cases h : i < l.length
  · simp only [nn, ltD h, Bool.and_self, Int.toNat_natCast, getD_lt h, wrap_succ (show i < 2^62 by omega), cond_true, all_drop h, hrec _ _ h ⟨rfl, rfl⟩]
    by_cases c : l[i] < -1
    · simp only [decide_eq_true c, cond_true, decide_eq_false (show ¬ -1 ≤ l[i] by omega), Bool.false_and]
    · simp only [decide_eq_false c, cond_false, decide_eq_true (show -1 ≤ l[i] by omega), Bool.true_and]
  · have : i = l.length := by omega
    subst this
    simp

theorem areValues_eq {k : Nat} (K : 2^42 ≤ k) {l : List Int} (hl : l.length ≤ 2^40) : impl_areValues.f k l = some ((valsB l, ()), ()) := by
  unfold impl_areValues.f valsB
  refine (impl_areValues.i1001_i1002_l2_for l.length (fun _ x0 x7 => l = x0 ∧ (l.length : Int) = x7) (fun i _ _ => some (((l.drop i).all (fun n => decide (-1 ≤ n)), ()), ())) ?_ k 0 _ _ (Nat.zero_le _) ⟨rfl, rfl⟩ (by omega)).trans (by simp)
  rintro i _ _ rec hi ⟨rfl, rfl⟩ hrec
  unfold impl_areValues.i1001_i1002_s2 impl_areValues_1.f
  by_cases h : i < l.length
  · simp only [nn, ltD h, Bool.and_self, Int.toNat_natCast, getD_lt h, wrap_succ (show i < 2^62 by omega), cond_true, all_drop h, hrec _ _ h ⟨rfl, rfl⟩, Option.bind_some]
    by_cases c : l[i] < -1
    · have : decide ((i : Int) ≥ 0) = true := by simp
      simp only [decide_eq_true c, cond_true, decide_eq_false (show ¬ -1 ≤ l[i] by omega), Bool.false_and, this, Bool.not_true]
    · simp only [decide_eq_false c, cond_false, decide_eq_true (show -1 ≤ l[i] by omega), Bool.true_and]
  · have : i = l.length := by omega
    subst this
    simp

/-- The code of winners and values. -/
def codeR (w v : List Int) : Int := if inB 2 6 v.length = true then (if wins w v.length = true then (if valsB v = true then 0 else 2) else 1) else 2

theorem iCode_eq {k : Nat} (K : 2^42 ≤ k) {w v : List Int} (hw : w.length ≤ 2^40) (hv : v.length ≤ 2^40) : impl_checkValues.f k w v = some ((codeR w v, ()), ()) := by
  unfold impl_checkValues.f codeR
  simp only [within_eq, Option.bind_some, areWinners_eq K hw (show (0 : Int) ≤ v.length by omega) (show (v.length : Int) ≤ 2^40 by omega), areValues_eq K hv]
  cases inB 2 6 (v.length : Int) <;> cases wins w (v.length : Int) <;> cases valsB v <;> rfl

theorem codeR_zero {w v : List Int} (h : codeR w v = 0) : inB 2 6 v.length = true ∧ wins w v.length = true ∧ valsB v = true := by
  unfold codeR at h
  split at h
  · split at h
    · split at h
      · exact ⟨by assumption, by assumption, by assumption⟩
      · omega
    · omega
  · omega

theorem wins_all {w : List Int} {n : Int} (h : wins w n = true) : w.all (inB 0 (n - 1)) = true := by
  simp only [wins, Bool.and_eq_true] at h; exact h.2.1

/-- What HighWinners and LowWinners return. -/
def WinR (hi : Bool) (w v : List Int) : List Int × Int := if codeR w v = 0 then (if (bestL hi v w).length = 0 then ([], 4) else (bestL hi v w, 0)) else ([], codeR w v)

theorem iHighWinners_eq {k : Nat} (K : 2^42 ≤ k) {w v : List Int} (hw : w.length ≤ 2^40) (hv : v.length ≤ 2^40) : impl_HighWinners.f k w v = some (((WinR true w v).1, (WinR true w v).2, ()), ()) := by
  unfold impl_HighWinners.f WinR
  simp only [iCode_eq K hw hv, Option.bind_some]
  by_cases hc : codeR w v = 0
  · simp only [hc, bne_self_eq_false, cond_false, if_true, iHigh_eq K hw (wins_all (codeR_zero hc).2.1), Option.bind_some]
    by_cases hz : (bestL true v w).length = 0
    · simp [hz]
    · have : (((bestL true v w).length : Int) == 0) = false := by simp only [beq_eq_false_iff_ne]; omega
      simp only [this, cond_false, if_neg hz]
  · have : (codeR w v != 0) = true := by simp [hc]
    simp only [this, cond_true, if_neg hc]

theorem iLowWinners_eq {k : Nat} (K : 2^42 ≤ k) {w v : List Int} (hw : w.length ≤ 2^40) (hv : v.length ≤ 2^40) : impl_LowWinners.f k w v = some (((WinR false w v).1, (WinR false w v).2, ()), ()) := by
  unfold impl_LowWinners.f WinR
  simp only [iCode_eq K hw hv, Option.bind_some]
  by_cases hc : codeR w v = 0
  · simp only [hc, bne_self_eq_false, cond_false, if_true, iLow_eq K hw (wins_all (codeR_zero hc).2.1), Option.bind_some]
    by_cases hz : (bestL false v w).length = 0
    · simp [hz]
    · have : (((bestL false v w).length : Int) == 0) = false := by simp only [beq_eq_false_iff_ne]; omega
      simp only [this, cond_false, if_neg hz]
  · have : (codeR w v != 0) = true := by simp [hc]
    simp only [this, cond_true, if_neg hc]

/-- Two lists' sums, place by place. -/
def addL (a b : List Int) : List Int := List.zipWith (fun x y => IntKind.wrap .i64 (x + y)) a b

theorem addL_len {y r : List Int} (h : r.length = y.length) : (addL y r).length = y.length := by simp [addL, h]

theorem addL_get {y r : List Int} {i : Nat} (h1 : i < y.length) (h2 : i < r.length) : (addL y r)[i]'(by simp [addL]; omega) = IntKind.wrap .i64 (y[i] + r[i]) := by simp [addL]

theorem addL_comm (a b : List Int) : addL a b = addL b a := by
  unfold addL
  rw [List.zipWith_comm]
  congr 1
  funext x y
  rw [Int.add_comm]

theorem addL_zero {S : Nat} {l : List Int} (h : l.length = S) (hb : ∀ x ∈ l, -9223372036854775808 ≤ x ∧ x < 9223372036854775808) : addL (List.replicate S 0) l = l := by
  apply List.ext_getElem
  · simp [addL, h]
  · intro i h1 h2
    rw [addL_get (by simp; omega) h2]
    have := hb l[i] (List.getElem_mem h2)
    rw [List.getElem_replicate, Int.zero_add, wrap_id this.1 this.2]

theorem i10005_eq {R : Type} {k : Nat} (K : 2^42 ≤ k) {y r : List Int} (hr : r.length = y.length) (hl : y.length ≤ 2^40) (v1 v2 : List Int) (ps : List (Int × ((List Int) × Unit))) (ln pi S F : Int) (a : Int) (w h : List Int) kx0 : impl_awarded.i10005_l1 (R := R) k k ((r.length : Int), 0, v1, v2, ps, ln, pi, y, r, S, F, a, w, h) kx0 = kx0 (v1, v2, ps, ln, pi, addL y r, S, F, a, w, h) := by
  have hA := addL_len hr
  refine (impl_awarded.i10005_l1_for r.length (fun i x14 x4096 x4097 x4102 x4103 x4104 y0 y2 z3 z4 z5_0 z5_1 y6 => (r.length : Int) = x14 ∧ v1 = x4096 ∧ v2 = x4097 ∧ ps = x4102 ∧ ln = x4103 ∧ pi = x4104 ∧ (addL y r).take i ++ y.drop i = y0 ∧ r = y2 ∧ S = z3 ∧ F = z4 ∧ a = z5_0 ∧ w = z5_1 ∧ h = y6) (fun _ _ _ _ _ _ _ _ _ _ _ _ _ _ => kx0 (v1, v2, ps, ln, pi, addL y r, S, F, a, w, h)) ?_ k 0 _ _ _ _ _ _ _ _ _ _ _ _ _ (Nat.zero_le _) ⟨rfl, rfl, rfl, rfl, rfl, rfl, by simp, rfl, rfl, rfl, rfl, rfl, rfl⟩ (by omega))
  rintro i _ _ _ _ _ _ _ _ _ _ _ _ _ rec hi ⟨rfl, rfl, rfl, rfl, rfl, rfl, rfl, rfl, rfl, rfl, rfl, rfl, rfl⟩ hrec
  unfold impl_awarded.i10005_s1
  by_cases h' : i < r.length
  · have hy : i < y.length := by omega
    have hu := upd_len (l := addL y r) (m := y) (i := i) hA (by omega)
    have hg := upd_get (l := addL y r) (m := y) (i := i) hA hy (0 : Int)
    have hs := upd_step (l := addL y r) (m := y) (i := i) (by omega) hy
    rw [addL_get hy h'] at hs
    have e := hrec _ _ _ _ _ _ _ _ _ _ _ _ _ h' ⟨rfl, rfl, rfl, rfl, rfl, rfl, rfl, rfl, rfl, rfl, rfl, rfl, rfl⟩
    simp only [nn, ltD h', hu, ltD hy, Bool.and_self, Int.toNat_natCast, getD_lt h', hg, hs, decide_eq_true h', decide_eq_true hy, wrap_succ (show i < 2^62 by omega), cond_true, e]
  · have : i = r.length := by omega
    subst this
    have hd : (addL y r).take r.length ++ y.drop r.length = addL y r := by
      rw [List.take_of_length_le (by omega), List.drop_eq_nil_of_le (by omega), List.append_nil]
    have hlt : decide ((r.length : Int) < (r.length : Int)) = false := by simp
    simp only [hlt, cond_false, hd]

theorem i11008_eq {R : Type} {k : Nat} (K : 2^42 ≤ k) {y r : List Int} (hr : r.length = y.length) (hl : y.length ≤ 2^40) (v1 v2 : List Int) (ps : List (Int × ((List Int) × Unit))) (ln pi S F : Int) kx0 : impl_awarded.i11008_l1 (R := R) k k ((r.length : Int), 0, v1, v2, ps, ln, pi, y, r, S, F) kx0 = kx0 (v1, v2, ps, ln, pi, addL y r, S, F) := by
  have hA := addL_len hr
  refine (impl_awarded.i11008_l1_for r.length (fun i x14 x4096 x4097 x4100 x4101 x4102 y0 y2 z3 z4 => (r.length : Int) = x14 ∧ v1 = x4096 ∧ v2 = x4097 ∧ ps = x4100 ∧ ln = x4101 ∧ pi = x4102 ∧ (addL y r).take i ++ y.drop i = y0 ∧ r = y2 ∧ S = z3 ∧ F = z4) (fun _ _ _ _ _ _ _ _ _ _ _ => kx0 (v1, v2, ps, ln, pi, addL y r, S, F)) ?_ k 0 _ _ _ _ _ _ _ _ _ _ (Nat.zero_le _) ⟨rfl, rfl, rfl, rfl, rfl, rfl, by simp, rfl, rfl, rfl⟩ (by omega))
  rintro i _ _ _ _ _ _ _ _ _ _ rec hi ⟨rfl, rfl, rfl, rfl, rfl, rfl, rfl, rfl, rfl, rfl⟩ hrec
  unfold impl_awarded.i11008_s1
  by_cases h' : i < r.length
  · have hy : i < y.length := by omega
    have hu := upd_len (l := addL y r) (m := y) (i := i) hA (by omega)
    have hg := upd_get (l := addL y r) (m := y) (i := i) hA hy (0 : Int)
    have hs := upd_step (l := addL y r) (m := y) (i := i) (by omega) hy
    rw [addL_get hy h'] at hs
    have e := hrec _ _ _ _ _ _ _ _ _ _ h' ⟨rfl, rfl, rfl, rfl, rfl, rfl, rfl, rfl, rfl, rfl⟩
    simp only [nn, ltD h', hu, ltD hy, Bool.and_self, Int.toNat_natCast, getD_lt h', hg, hs, decide_eq_true h', decide_eq_true hy, wrap_succ (show i < 2^62 by omega), cond_true, e]
  · have : i = r.length := by omega
    subst this
    have hd : (addL y r).take r.length ++ y.drop r.length = addL y r := by
      rw [List.take_of_length_le (by omega), List.drop_eq_nil_of_le (by omega), List.append_nil]
    have hlt : decide ((r.length : Int) < (r.length : Int)) = false := by simp
    simp only [hlt, cond_false, hd]

theorem i13004_eq {R : Type} {k : Nat} (K : 2^42 ≤ k) {y r : List Int} (hr : r.length = y.length) (hl : y.length ≤ 2^40) (v1 v2 : List Int) (ps : List (Int × ((List Int) × Unit))) (ln pi S F : Int) kx0 : impl_awarded.i13004_l1 (R := R) k k ((r.length : Int), 0, v1, v2, ps, ln, pi, y, r, S, F) kx0 = kx0 (v1, v2, ps, ln, pi, addL y r, S, F) := by
  have hA := addL_len hr
  refine (impl_awarded.i13004_l1_for r.length (fun i x14 x4096 x4097 x4100 x4101 x4102 y0 y2 z3 z4 => (r.length : Int) = x14 ∧ v1 = x4096 ∧ v2 = x4097 ∧ ps = x4100 ∧ ln = x4101 ∧ pi = x4102 ∧ (addL y r).take i ++ y.drop i = y0 ∧ r = y2 ∧ S = z3 ∧ F = z4) (fun _ _ _ _ _ _ _ _ _ _ _ => kx0 (v1, v2, ps, ln, pi, addL y r, S, F)) ?_ k 0 _ _ _ _ _ _ _ _ _ _ (Nat.zero_le _) ⟨rfl, rfl, rfl, rfl, rfl, rfl, by simp, rfl, rfl, rfl⟩ (by omega))
  rintro i _ _ _ _ _ _ _ _ _ _ rec hi ⟨rfl, rfl, rfl, rfl, rfl, rfl, rfl, rfl, rfl, rfl⟩ hrec
  unfold impl_awarded.i13004_s1
  by_cases h' : i < r.length
  · have hy : i < y.length := by omega
    have hu := upd_len (l := addL y r) (m := y) (i := i) hA (by omega)
    have hg := upd_get (l := addL y r) (m := y) (i := i) hA hy (0 : Int)
    have hs := upd_step (l := addL y r) (m := y) (i := i) (by omega) hy
    rw [addL_get hy h'] at hs
    have e := hrec _ _ _ _ _ _ _ _ _ _ h' ⟨rfl, rfl, rfl, rfl, rfl, rfl, rfl, rfl, rfl, rfl⟩
    simp only [nn, ltD h', hu, ltD hy, Bool.and_self, Int.toNat_natCast, getD_lt h', hg, hs, decide_eq_true h', decide_eq_true hy, wrap_succ (show i < 2^62 by omega), cond_true, e]
  · have : i = r.length := by omega
    subst this
    have hd : (addL y r).take r.length ++ y.drop r.length = addL y r := by
      rw [List.take_of_length_le (by omega), List.drop_eq_nil_of_le (by omega), List.append_nil]
    have hlt : decide ((r.length : Int) < (r.length : Int)) = false := by simp
    simp only [hlt, cond_false, hd]

theorem i15004_eq {R : Type} {k : Nat} (K : 2^42 ≤ k) {y r : List Int} (hr : r.length = y.length) (hl : y.length ≤ 2^40) (v1 v2 : List Int) (ps : List (Int × ((List Int) × Unit))) (ln pi S F : Int) kx0 : impl_awarded.i15004_l1 (R := R) k k ((r.length : Int), 0, v1, v2, ps, ln, pi, y, r, S, F) kx0 = kx0 (v1, v2, ps, ln, pi, addL y r, S, F) := by
  have hA := addL_len hr
  refine (impl_awarded.i15004_l1_for r.length (fun i x14 x4096 x4097 x4100 x4101 x4102 y0 y2 z3 z4 => (r.length : Int) = x14 ∧ v1 = x4096 ∧ v2 = x4097 ∧ ps = x4100 ∧ ln = x4101 ∧ pi = x4102 ∧ (addL y r).take i ++ y.drop i = y0 ∧ r = y2 ∧ S = z3 ∧ F = z4) (fun _ _ _ _ _ _ _ _ _ _ _ => kx0 (v1, v2, ps, ln, pi, addL y r, S, F)) ?_ k 0 _ _ _ _ _ _ _ _ _ _ (Nat.zero_le _) ⟨rfl, rfl, rfl, rfl, rfl, rfl, by simp, rfl, rfl, rfl⟩ (by omega))
  rintro i _ _ _ _ _ _ _ _ _ _ rec hi ⟨rfl, rfl, rfl, rfl, rfl, rfl, rfl, rfl, rfl, rfl⟩ hrec
  unfold impl_awarded.i15004_s1
  by_cases h' : i < r.length
  · have hy : i < y.length := by omega
    have hu := upd_len (l := addL y r) (m := y) (i := i) hA (by omega)
    have hg := upd_get (l := addL y r) (m := y) (i := i) hA hy (0 : Int)
    have hs := upd_step (l := addL y r) (m := y) (i := i) (by omega) hy
    rw [addL_get hy h'] at hs
    have e := hrec _ _ _ _ _ _ _ _ _ _ h' ⟨rfl, rfl, rfl, rfl, rfl, rfl, rfl, rfl, rfl, rfl⟩
    simp only [nn, ltD h', hu, ltD hy, Bool.and_self, Int.toNat_natCast, getD_lt h', hg, hs, decide_eq_true h', decide_eq_true hy, wrap_succ (show i < 2^62 by omega), cond_true, e]
  · have : i = r.length := by omega
    subst this
    have hd : (addL y r).take r.length ++ y.drop r.length = addL y r := by
      rw [List.take_of_length_le (by omega), List.drop_eq_nil_of_le (by omega), List.append_nil]
    have hlt : decide ((r.length : Int) < (r.length : Int)) = false := by simp
    simp only [hlt, cond_false, hd]

theorem i8005_eq {R : Type} {k : Nat} (K : 2^42 ≤ k) {y r : List Int} (hr : r.length = y.length) (hl : y.length ≤ 2^40) (v1 v2 : List Int) (ps : List (Int × ((List Int) × Unit))) (ln pi S F : Int) kx0 : impl_awarded.i8005_l1 (R := R) k k ((r.length : Int), 0, v1, v2, ps, ln, pi, y, r, S, F) kx0 = kx0 (v1, v2, ps, ln, pi, addL y r, S, F) := by
  have hA := addL_len hr
  refine (impl_awarded.i8005_l1_for r.length (fun i x14 x4096 x4097 x4100 x4101 x4102 y0 y2 z3 z4 => (r.length : Int) = x14 ∧ v1 = x4096 ∧ v2 = x4097 ∧ ps = x4100 ∧ ln = x4101 ∧ pi = x4102 ∧ (addL y r).take i ++ y.drop i = y0 ∧ r = y2 ∧ S = z3 ∧ F = z4) (fun _ _ _ _ _ _ _ _ _ _ _ => kx0 (v1, v2, ps, ln, pi, addL y r, S, F)) ?_ k 0 _ _ _ _ _ _ _ _ _ _ (Nat.zero_le _) ⟨rfl, rfl, rfl, rfl, rfl, rfl, by simp, rfl, rfl, rfl⟩ (by omega))
  rintro i _ _ _ _ _ _ _ _ _ _ rec hi ⟨rfl, rfl, rfl, rfl, rfl, rfl, rfl, rfl, rfl, rfl⟩ hrec
  unfold impl_awarded.i8005_s1
  by_cases h' : i < r.length
  · have hy : i < y.length := by omega
    have hu := upd_len (l := addL y r) (m := y) (i := i) hA (by omega)
    have hg := upd_get (l := addL y r) (m := y) (i := i) hA hy (0 : Int)
    have hs := upd_step (l := addL y r) (m := y) (i := i) (by omega) hy
    rw [addL_get hy h'] at hs
    have e := hrec _ _ _ _ _ _ _ _ _ _ h' ⟨rfl, rfl, rfl, rfl, rfl, rfl, rfl, rfl, rfl, rfl⟩
    simp only [nn, ltD h', hu, ltD hy, Bool.and_self, Int.toNat_natCast, getD_lt h', hg, hs, decide_eq_true h', decide_eq_true hy, wrap_succ (show i < 2^62 by omega), cond_true, e]
  · have : i = r.length := by omega
    subst this
    have hd : (addL y r).take r.length ++ y.drop r.length = addL y r := by
      rw [List.take_of_length_le (by omega), List.drop_eq_nil_of_le (by omega), List.append_nil]
    have hlt : decide ((r.length : Int) < (r.length : Int)) = false := by simp
    simp only [hlt, cond_false, hd]

theorem l13Add_eq {k : Nat} (K : 2^42 ≤ k) {y r : List Int} (hr : r.length = y.length) (hl : y.length ≤ 2^40) : spec_l13Add.f k y r = some ((addL y r, ()), ()) := by
  unfold spec_l13Add.f
  have hA := addL_len hr
  refine (spec_l13Add.l3_for y.length (fun i x0 x1 y0 => y = x0 ∧ r = x1 ∧ (addL y r).take i = y0) (fun _ _ _ _ => some ((addL y r, ()), ())) ?_ k 0 _ _ _ (Nat.zero_le _) ⟨rfl, rfl, rfl⟩ (by omega))
  rintro i _ _ _ rec hi ⟨rfl, rfl, rfl⟩ hrec
  unfold spec_l13Add.s3
  by_cases h : i < y.length
  · have h2 : i < r.length := by omega
    have hs := take_snoc (l := addL y r) (i := i) (by omega)
    rw [addL_get h h2] at hs
    have e := hrec _ _ _ h ⟨rfl, rfl, rfl⟩
    have hm : decide ((((addL y r).take i).length + 1) * 8 ≤ AM.maxBytes) = true := room (by simp; omega) (by omega)
    simp only [nn, ltD h, ltD h2, Bool.and_self, Int.toNat_natCast, getD_lt h, getD_lt h2, List.length_singleton, hm, hs, wrap_succ (show i < 2^62 by omega), cond_true, e]
  · have : i = y.length := by omega
    subst this
    have hd : (addL y r).take y.length = addL y r := List.take_of_length_le (by omega)
    have hlt : decide ((y.length : Int) < (y.length : Int)) = false := by simp
    simp only [hlt, cond_false, hd]

/-- One pot's shares as the reference has them. -/
def awardL (a : Int) (w v1 v2 : List Int) (S F : Nat) : List Int :=
  if 0 < (bestL true v1 w).length then (if 0 < (bestL false v2 w).length then addL (splitL (bestL true v1 w) S F (a - a.tdiv 2)) (splitL (bestL false v2 w) S F (a.tdiv 2)) else splitL (bestL true v1 w) S F a)
  else if 0 < (bestL false v2 w).length then splitL (bestL false v2 w) S F a else splitL w S F a

/-- A pot's shares added to what is awarded, as the program does it. -/
def awStep (v1 v2 : List Int) (S F : Nat) (y : List Int) (p : Int × List Int × Unit) : List Int :=
  if 0 < (bestL true v1 p.2.1).length ∧ 0 < (bestL false v2 p.2.1).length then addL (addL y (splitL (bestL false v2 p.2.1) S F (p.1.tdiv 2))) (splitL (bestL true v1 p.2.1) S F (p.1 - p.1.tdiv 2)) else addL y (awardL p.1 p.2.1 v1 v2 S F)

theorem splitL_len (w : List Int) (S F : Nat) (a : Int) : (splitL w S F a).length = S := spRun_len w S F a S

theorem awardL_len (a : Int) (w v1 v2 : List Int) (S F : Nat) : (awardL a w v1 v2 S F).length = S := by
  unfold awardL
  split
  · split
    · rw [addL_len (by rw [splitL_len, splitL_len]), splitL_len]
    · exact splitL_len _ _ _ _
  · split <;> exact splitL_len _ _ _ _

def awRun (ps : List (Int × List Int × Unit)) (v1 v2 : List Int) (S F i : Nat) : List Int := (ps.take i).foldl (awStep v1 v2 S F) (List.replicate S 0)

theorem awStep_len {v1 v2 : List Int} {S F : Nat} {y : List Int} (h : y.length = S) (p : Int × List Int × Unit) : (awStep v1 v2 S F y p).length = S := by
  unfold awStep
  split
  · rw [addL_len (by rw [splitL_len, addL_len (by rw [splitL_len, h]), h]), addL_len (by rw [splitL_len, h]), h]
  · rw [addL_len (by rw [awardL_len, h]), h]

theorem awRun_succ {ps : List (Int × List Int × Unit)} {v1 v2 : List Int} {S F i : Nat} (h : i < ps.length) : awRun ps v1 v2 S F (i + 1) = awStep v1 v2 S F (awRun ps v1 v2 S F i) ps[i] := by
  unfold awRun; rw [← List.take_append_getElem h, List.foldl_append]; rfl

theorem awRun_len (ps : List (Int × List Int × Unit)) (v1 v2 : List Int) (S F : Nat) : ∀ i, (awRun ps v1 v2 S F i).length = S
  | 0 => by simp [awRun]
  | i + 1 => by
    by_cases h : i < ps.length
    · rw [awRun_succ h]; exact awStep_len (awRun_len ps v1 v2 S F i) _
    · have e : ps.take (i + 1) = ps.take i := by rw [List.take_of_length_le (by omega), List.take_of_length_le (by omega)]
      have := awRun_len ps v1 v2 S F i
      unfold awRun at *
      rw [e]; exact this

/-- The pots are as asked. -/
def potsB (ps : List (Int × List Int × Unit)) (n : Int) : Bool := ps.all fun p => wins p.2.1 n && inB 0 600000 p.1

theorem bestL_len (hi : Bool) (v w : List Int) : (bestL hi v w).length ≤ w.length := bestRun_len hi v w w.length

theorem half {a : Int} (h0 : 0 ≤ a) : 0 ≤ a.tdiv 2 ∧ a.tdiv 2 ≤ a := ⟨Int.tdiv_nonneg h0 (by omega), Int.tdiv_le_self _ h0⟩

theorem gt0 {n : Nat} (h : 0 < n) : decide ((n : Int) > 0) = true := by simp; omega

theorem not_gt0 {n : Nat} (h : ¬ 0 < n) : decide ((n : Int) > 0) = false := by simp; omega

theorem two0 : decide ((2 : Int) = 0) = false := by decide

theorem sAward_eq {k : Nat} (K : 2^42 ≤ k) {a : Int} {w v1 v2 : List Int} (hw : wins w v1.length = true) (hl : w.length ≤ 2^40) (ha : inB 0 600000 a = true) (h12 : v2.length = v1.length) (hS : 0 < v1.length) (hS' : v1.length ≤ 2^20) {F : Nat} (hF : F < 2^40) :
    spec_l13Award.f k (a, w, ()) v1 v2 (F : Int) = some ((awardL a w v1 v2 v1.length F, ()), ()) := by
  unfold spec_l13Award.f awardL
  have ha' := inB_iff.1 ha
  have hh := half ha'.1
  have hall := wins_all hw
  have hb1 := bestL_len true v1 w
  have hb2 := bestL_len false v2 w
  have w1 : IntKind.wrap .i64 (a.tdiv 2) = a.tdiv 2 := wrap_id (by omega) (by omega)
  have w2 : IntKind.wrap .i64 (a - a.tdiv 2) = a - a.tdiv 2 := wrap_id (by omega) (by omega)
  simp only [sBest_eq K hl hall, sBest_eq K hl (vals := v2) (by rw [h12]; exact hall), Option.bind_some, two0, Bool.not_false, cond_true, w1, w2]
  by_cases c1 : 0 < (bestL true v1 w).length
  · by_cases c2 : 0 < (bestL false v2 w).length
    · simp only [gt0 c1, gt0 c2, cond_true, if_pos c1, if_pos c2, sSplit_eq K (show (bestL true v1 w).length ≤ 2^40 by omega) c1 (show 0 ≤ a - a.tdiv 2 by omega) (show a - a.tdiv 2 ≤ 2^40 by omega) hS hS' hF, sSplit_eq K (show (bestL false v2 w).length ≤ 2^40 by omega) c2 hh.1 (show a.tdiv 2 ≤ 2^40 by omega) hS hS' hF, Option.bind_some, l13Add_eq K (show (splitL (bestL false v2 w) v1.length F (a.tdiv 2)).length = (splitL (bestL true v1 w) v1.length F (a - a.tdiv 2)).length by rw [splitL_len, splitL_len]) (by rw [splitL_len]; omega)]
    · simp only [gt0 c1, not_gt0 c2, cond_true, cond_false, if_pos c1, if_neg c2, sSplit_eq K (show (bestL true v1 w).length ≤ 2^40 by omega) c1 ha'.1 (show a ≤ 2^40 by omega) hS hS' hF, Option.bind_some]
  · by_cases c2 : 0 < (bestL false v2 w).length
    · simp only [not_gt0 c1, gt0 c2, cond_true, cond_false, if_neg c1, if_pos c2, sSplit_eq K (show (bestL false v2 w).length ≤ 2^40 by omega) c2 ha'.1 (show a ≤ 2^40 by omega) hS hS' hF, Option.bind_some]
    · simp only [not_gt0 c1, not_gt0 c2, cond_false, if_neg c1, if_neg c2, sSplit_eq K hl (wins_pos hw) ha'.1 (show a ≤ 2^40 by omega) hS hS' hF, Option.bind_some]

theorem iAwarded_eq {k : Nat} (K : 2^42 ≤ k) {ps : List (Int × List Int × Unit)} {v1 v2 : List Int} (hps : potsB ps v1.length = true) (hpl : ps.length ≤ 2^40) (hwl : ∀ p ∈ ps, p.2.1.length ≤ 2^40) (h12 : v2.length = v1.length) (hS : 0 < v1.length) (hS' : v1.length ≤ 2^20) {F : Nat} (hF : F < 2^40) :
    impl_awarded.f k ps v1 v2 (F : Int) = some ((awRun ps v1 v2 v1.length F ps.length, ()), ()) := by
  unfold impl_awarded.f
  have hm : decide ((v1.length : Int) * ((8 : Nat) : Int) ≤ (AM.maxBytes : Int)) = true := by unfold AM.maxBytes; simp; omega
  simp only [nn, Int.le_refl, decide_true, hm, Bool.and_self, cond_true, Int.toNat_natCast]
  refine impl_awarded.l5_fix (fun v => ∃ i, i ≤ ps.length ∧ v = (v1, v2, ps, (ps.length : Int), (i : Int), awRun ps v1 v2 v1.length F i, (v1.length : Int), (F : Int))) (fun v => ps.length - v.2.2.2.2.1.toNat) (fun _ => some ((awRun ps v1 v2 v1.length F ps.length, ()), ())) ?_ k _ ⟨0, Nat.zero_le _, rfl⟩ (by simp; omega)
  rintro _ rec ⟨i, hi, rfl⟩ hrec
  unfold impl_awarded.s5
  by_cases h : i < ps.length
  · have e := hrec (v1, v2, ps, (ps.length : Int), ((i : Int) + 1), awRun ps v1 v2 v1.length F (i + 1), (v1.length : Int), (F : Int)) ⟨i + 1, h, rfl⟩ (by simp only [Int.toNat_natCast]; omega)
    rw [awRun_succ h] at e
    have hy := awRun_len ps v1 v2 v1.length F i
    have hp := List.all_eq_true.1 hps ps[i] (List.getElem_mem h)
    have hwl' := hwl ps[i] (List.getElem_mem h)
    simp only [nn, ltD h, Bool.and_self, Int.toNat_natCast, getD_lt h, wrap_succ (show i < 2^62 by omega), cond_true, Bool.and_eq_true] at hp ⊢
    generalize awRun ps v1 v2 v1.length F i = y at *
    obtain ⟨⟨a, w, u⟩, hpe⟩ : ∃ p, ps[i] = p := ⟨_, rfl⟩
    simp only [hpe] at e hp hwl' ⊢
    have ha' := inB_iff.1 hp.2
    have hh := half ha'.1
    have hall := wins_all hp.1
    have hb1 := bestL_len true v1 w
    have hb2 := bestL_len false v2 w
    have w1 : IntKind.wrap .i64 (a.tdiv 2) = a.tdiv 2 := wrap_id (by omega) (by omega)
    have w2 : IntKind.wrap .i64 (a - a.tdiv 2) = a - a.tdiv 2 := wrap_id (by omega) (by omega)
    have hyl : y.length ≤ 2^40 := by omega
    simp only [iHigh_eq K hwl' hall, iLow_eq K hwl' (vals := v2) (by rw [h12]; exact hall), Option.bind_some, two0, Bool.not_false, cond_true, w1, w2]
    unfold awStep awardL at e
    by_cases c1 : 0 < (bestL true v1 w).length
    · by_cases c2 : 0 < (bestL false v2 w).length
      · rw [if_pos ⟨c1, c2⟩] at e
        simp only [gt0 c1, gt0 c2, cond_true, iSplit_eq K (show (bestL false v2 w).length ≤ 2^40 by omega) c2 hh.1 (show a.tdiv 2 ≤ 2^40 by omega) hS hS' hF, Option.bind_some, i10005_eq K (show (splitL (bestL false v2 w) v1.length F (a.tdiv 2)).length = y.length by rw [splitL_len]; omega) hyl]
        simp only [w1, w2, iSplit_eq K (show (bestL true v1 w).length ≤ 2^40 by omega) c1 (show 0 ≤ a - a.tdiv 2 by omega) (show a - a.tdiv 2 ≤ 2^40 by omega) hS hS' hF, Option.bind_some]
        rw [i11008_eq K (by rw [splitL_len, addL_len (by rw [splitL_len]; omega)]; omega) (by rw [addL_len (by rw [splitL_len]; omega)]; omega)]
        simp only [wrap_succ (show i < 2^62 by omega), e]
      · rw [if_neg (fun h => c2 h.2), if_pos c1, if_neg c2] at e
        simp only [gt0 c1, not_gt0 c2, cond_true, cond_false, iSplit_eq K (show (bestL true v1 w).length ≤ 2^40 by omega) c1 ha'.1 (show a ≤ 2^40 by omega) hS hS' hF, Option.bind_some, i13004_eq K (show (splitL (bestL true v1 w) v1.length F a).length = y.length by rw [splitL_len]; omega) hyl, wrap_succ (show i < 2^62 by omega), e]
    · rw [if_neg (fun h => c1 h.1), if_neg c1] at e
      by_cases c2 : 0 < (bestL false v2 w).length
      · rw [if_pos c2] at e
        simp only [not_gt0 c1, gt0 c2, cond_true, cond_false, iSplit_eq K (show (bestL false v2 w).length ≤ 2^40 by omega) c2 ha'.1 (show a ≤ 2^40 by omega) hS hS' hF, Option.bind_some, i15004_eq K (show (splitL (bestL false v2 w) v1.length F a).length = y.length by rw [splitL_len]; omega) hyl, wrap_succ (show i < 2^62 by omega), e]
      · rw [if_neg c2] at e
        simp only [not_gt0 c1, not_gt0 c2, cond_false, iSplit_eq K hwl' (wins_pos hp.1) ha'.1 (show a ≤ 2^40 by omega) hS hS' hF, Option.bind_some, i8005_eq K (show (splitL w v1.length F a).length = y.length by rw [splitL_len]; omega) hyl, wrap_succ (show i < 2^62 by omega), e]
  · have : i = ps.length := by omega
    subst this
    have hlt : decide ((ps.length : Int) < (ps.length : Int)) = false := by simp
    simp only [hlt, cond_false]

/-- The code of pots, values and a first seat. -/
def potCode (ps : List (Int × List Int × Unit)) (v1 v2 : List Int) (f : Int) : Int :=
  if inB 2 6 v1.length = true then (if potsB ps v1.length = true then (if valsB v1 = true ∧ v2.length = v1.length ∧ valsB v2 = true ∧ inB 0 ((v1.length : Int) - 1) f = true then 0 else 2) else 1) else 2

theorem l13Pots_eq {k : Nat} (K : 2^42 ≤ k) {ps : List (Int × List Int × Unit)} {v1 v2 : List Int} (f : Int) (hpl : ps.length ≤ 2^40) (hwl : ∀ p ∈ ps, p.2.1.length ≤ 2^40) (h1 : v1.length ≤ 2^40) (h2 : v2.length ≤ 2^40) :
    spec_l13Pots.f k ps v1 v2 f = some ((potCode ps v1 v2 f, ()), ()) := by
  unfold spec_l13Pots.f spec_l13Seats.f potCode
  simp only [l01In_eq, Option.bind_some]
  cases hn : inB 2 6 (v1.length : Int) with
  | false => simp
  | true =>
    have hn' := inB_iff.1 hn
    simp only [Bool.not_true, cond_false, if_true]
    refine (spec_l13Pots.l5_for ps.length (fun i x0 x1 x2 x3 x9 => ps = x0 ∧ v1 = x1 ∧ v2 = x2 ∧ f = x3 ∧ (v1.length : Int) = x9) (fun i _ _ _ _ _ => some (((if potsB (ps.drop i) v1.length = true then (if valsB v1 = true ∧ v2.length = v1.length ∧ valsB v2 = true ∧ inB 0 ((v1.length : Int) - 1) f = true then 0 else 2) else 1), ()), ())) ?_ k 0 _ _ _ _ _ (Nat.zero_le _) ⟨rfl, rfl, rfl, rfl, rfl⟩ (by omega))
    rintro i _ _ _ _ _ rec hi ⟨rfl, rfl, rfl, rfl, rfl⟩ hrec
    unfold spec_l13Pots.s5 potsB
    by_cases h : i < ps.length
    · have hwl' := hwl ps[i] (List.getElem_mem h)
      have e := hrec _ _ _ _ _ h ⟨rfl, rfl, rfl, rfl, rfl⟩
      unfold potsB at e
      unfold spec_l13Amount.f
      simp only [nn, ltD h, Bool.and_self, Int.toNat_natCast, getD_lt h, wrap_succ (show i < 2^62 by omega), cond_true, all_drop h, l13Winners_eq K hwl' (show (0 : Int) ≤ v1.length by omega) (show (v1.length : Int) ≤ 2^40 by omega), l01In_eq, Option.bind_some, e]
      cases wins ps[i].2.1 (v1.length : Int) <;> cases inB 0 600000 ps[i].1 <;> rfl
    · have : i = ps.length := by omega
      subst this
      have hlt : decide ((ps.length : Int) < (ps.length : Int)) = false := by simp
      have w1 : IntKind.wrap .i64 ((v1.length : Int) - 1) = (v1.length : Int) - 1 := wrap_id (by omega) (by omega)
      have ee : ((v2.length : Int) == (v1.length : Int)) = decide (v2.length = v1.length) := by
        by_cases c : v2.length = v1.length
        · simp [c]
        · simp [c]; omega
      simp only [hlt, cond_false, List.drop_length, List.all_nil, if_true, l13Values_eq K h1, l13Values_eq K h2, l01In_eq, Option.bind_some, w1, beq_self_eq_true, Bool.and_true, ee]
      cases valsB v1 <;> cases valsB v2 <;> cases inB 0 ((v1.length : Int) - 1) f <;> by_cases c : v2.length = v1.length <;> simp [c]

/-- What AwardPots returns for at most six pots. -/
def AwR (ps : List (Int × List Int × Unit)) (v1 v2 : List Int) (f : Int) : List Int × Int :=
  if potCode ps v1 v2 f = 0 then (awRun ps v1 v2 v1.length f.toNat ps.length, 0) else ([], potCode ps v1 v2 f)

theorem potCode_zero {ps : List (Int × List Int × Unit)} {v1 v2 : List Int} {f : Int} (h : potCode ps v1 v2 f = 0) : inB 2 6 v1.length = true ∧ potsB ps v1.length = true ∧ v2.length = v1.length ∧ inB 0 ((v1.length : Int) - 1) f = true := by
  unfold potCode at h
  split at h
  · split at h
    · split at h
      · rename_i a b c
        exact ⟨a, b, c.2.1, c.2.2.2⟩
      · omega
    · omega
  · omega

theorem iAwardPots_eq {k : Nat} (K : 2^42 ≤ k) {ps : List (Int × List Int × Unit)} {v1 v2 : List Int} (f : Int) (hpl : ps.length ≤ 6) (hwl : ∀ p ∈ ps, p.2.1.length ≤ 2^40) (h1 : v1.length ≤ 2^40) (h2 : v2.length ≤ 2^40) :
    impl_AwardPots.f k ps v1 v2 f = some (((AwR ps v1 v2 f).1, (AwR ps v1 v2 f).2, ()), ()) := by
  unfold impl_AwardPots.f AwR
  have h6 : decide ((ps.length : Int) > 6) = false := by simp; omega
  simp only [within_eq, Option.bind_some, h6, cond_false]
  cases hn : inB 2 6 (v1.length : Int) with
  | false => simp [potCode, hn]
  | true =>
    have hn' := inB_iff.1 hn
    simp only [Bool.not_true, cond_false]
    refine (impl_AwardPots.l7_for ps.length (fun i x0 x1 x2 x3 x10 x23 x24 => ps = x0 ∧ v1 = x1 ∧ v2 = x2 ∧ f = x3 ∧ (v1.length : Int) = x10 ∧ ps = x23 ∧ (ps.length : Int) = x24 ∧ potsB (ps.take i) v1.length = true) (fun i _ _ _ _ _ _ _ => some ((((if potCode ps v1 v2 f = 0 then (awRun ps v1 v2 v1.length f.toNat ps.length, (0 : Int)) else ([], potCode ps v1 v2 f))).1, ((if potCode ps v1 v2 f = 0 then (awRun ps v1 v2 v1.length f.toNat ps.length, (0 : Int)) else ([], potCode ps v1 v2 f))).2, ()), ())) ?_ k 0 _ _ _ _ _ _ _ (Nat.zero_le _) ⟨rfl, rfl, rfl, rfl, rfl, rfl, rfl, by simp [potsB]⟩ (by omega))
    rintro i _ _ _ _ _ _ _ rec hi ⟨rfl, rfl, rfl, rfl, rfl, rfl, rfl, hq⟩ hrec
    unfold impl_AwardPots.s7
    by_cases h : i < ps.length
    · have hwl' := hwl ps[i] (List.getElem_mem h)
      simp only [nn, ltD h, Bool.and_self, Int.toNat_natCast, getD_lt h, wrap_succ (show i < 2^62 by omega), cond_true, areWinners_eq K hwl' (show (0 : Int) ≤ v1.length by omega) (show (v1.length : Int) ≤ 2^40 by omega), within_eq, Option.bind_some]
      by_cases c : (wins ps[i].2.1 (v1.length : Int) && inB 0 600000 ps[i].1) = true
      · have c' := c
        simp only [Bool.and_eq_true] at c
        have hq' : potsB (ps.take (i + 1)) v1.length = true := by
          unfold potsB at *
          rw [← List.take_append_getElem h, List.all_append, hq, List.all_cons, List.all_nil, c']; rfl
        rw [hrec _ _ _ _ _ _ _ h ⟨rfl, rfl, rfl, rfl, rfl, rfl, rfl, hq'⟩]
        simp only [c.1, c.2, Bool.not_true, cond_false]
      · have hbad : potsB ps v1.length = false := by
          rw [Bool.eq_false_iff]
          intro hall
          exact c (List.all_eq_true.1 hall ps[i] (List.getElem_mem h))
        have hc1 : potCode ps v1 v2 f = 1 := by simp [potCode, hn, hbad]
        cases d1 : wins ps[i].2.1 (v1.length : Int) <;> cases d2 : inB 0 600000 ps[i].1 <;> simp_all
    · have : i = ps.length := by omega
      subst this
      rw [List.take_length] at hq
      have hlt : decide ((ps.length : Int) < (ps.length : Int)) = false := by simp
      have w1 : IntKind.wrap .i64 ((v1.length : Int) - 1) = (v1.length : Int) - 1 := wrap_id (by omega) (by omega)
      simp only [hlt, cond_false, areValues_eq K h1, areValues_eq K h2, within_eq, Option.bind_some, w1]
      by_cases c : v2.length = v1.length
      · have cb : ((v2.length : Int) != (v1.length : Int)) = false := by simp [c]
        simp only [cb, cond_false]
        cases d1 : inB 0 ((v1.length : Int) - 1) f with
        | false => simp [potCode, hn, hq, c, d1]
        | true =>
          have hf := inB_iff.1 d1
          obtain ⟨F, rfl⟩ := Int.eq_ofNat_of_zero_le hf.1
          simp only [Bool.not_true, cond_false]
          cases d2 : valsB v1 with
          | false => simp [potCode, hn, hq, c, d1, d2]
          | true =>
            cases d3 : valsB v2 with
            | false => simp [potCode, hn, hq, c, d1, d2, d3]
            | true =>
              have hz : potCode ps v1 v2 (F : Int) = 0 := by simp [potCode, hn, hq, c, d2, d3]; exact d1
              simp only [Bool.not_true, cond_false, iAwarded_eq K hq (by omega) hwl c (by omega) (by omega) (show F < 2^40 by omega), Option.bind_some, hz, if_true, Int.toNat_natCast]
      · have cb : ((v2.length : Int) != (v1.length : Int)) = true := by simp only [bne_iff_ne]; omega
        have hz : potCode ps v1 v2 f = 2 := by simp [potCode, hn, hq, c]
        simp only [cb, cond_true, hz]
        cases inB 0 ((v1.length : Int) - 1) f <;> simp

theorem spRun_in (w : List Int) (S F : Nat) {a : Int} (h0 : 0 ≤ a) : ∀ i, ∀ x ∈ (spRun w S F a i).2, 0 ≤ x ∧ x ≤ a + 1
  | 0 => by
    intro x hx
    simp only [spRun, List.range_zero, List.foldl_nil] at hx
    have := List.eq_of_mem_replicate hx
    omega
  | i + 1 => by
    have ih := spRun_in w S F h0 i
    have hd := div_le (n := w.length) h0
    intro x hx
    rw [spRun_succ] at hx
    unfold spStep at hx
    split at hx
    · split at hx
      · rcases List.mem_or_eq_of_mem_set hx with h | h
        · exact ih x h
        · omega
      · rcases List.mem_or_eq_of_mem_set hx with h | h
        · exact ih x h
        · omega
    · exact ih x hx

theorem wrap_wrap (x : Int) : -9223372036854775808 ≤ IntKind.wrap .i64 x ∧ IntKind.wrap .i64 x < 9223372036854775808 := by
  unfold IntKind.wrap
  simp only [IntKind.signed, IntKind.bits, Bool.true_and]
  split
  · rename_i h; have := of_decide_eq_true h; omega
  · rename_i h; have := of_decide_eq_false (Bool.not_eq_true _ ▸ h); omega

theorem addL_in (a b : List Int) : ∀ x ∈ addL a b, -9223372036854775808 ≤ x ∧ x < 9223372036854775808 := by
  intro x hx
  unfold addL at hx
  rw [List.mem_iff_getElem] at hx
  obtain ⟨i, hi, rfl⟩ := hx
  rw [List.getElem_zipWith]
  exact wrap_wrap _

theorem splitL_in {w : List Int} {S F : Nat} {a : Int} (h0 : 0 ≤ a) (h1 : a ≤ 600000) : ∀ x ∈ splitL w S F a, -9223372036854775808 ≤ x ∧ x < 9223372036854775808 := by
  intro x hx
  have := spRun_in w S F h0 S x hx
  omega

theorem awardL_in {w v1 v2 : List Int} {S F : Nat} {a : Int} (h0 : 0 ≤ a) (h1 : a ≤ 600000) : ∀ x ∈ awardL a w v1 v2 S F, -9223372036854775808 ≤ x ∧ x < 9223372036854775808 := by
  unfold awardL
  split
  · split
    · exact addL_in _ _
    · exact splitL_in h0 h1
  · split <;> exact splitL_in h0 h1

theorem awRun_one {a : Int} (h0 : 0 ≤ a) (h1 : a ≤ 600000) (w v1 v2 : List Int) (S F : Nat) : awRun [(a, w, ())] v1 v2 S F 1 = awardL a w v1 v2 S F := by
  have hh := half h0
  unfold awRun
  simp only [List.take_succ_cons, List.take_zero, List.foldl_cons, List.foldl_nil]
  unfold awStep
  split
  · rename_i c
    unfold awardL
    simp only at c
    rw [if_pos c.1, if_pos c.2, addL_zero (splitL_len _ _ _ _) (splitL_in hh.1 (by omega)), addL_comm]
  · exact addL_zero (awardL_len _ _ _ _ _ _) (awardL_in h0 h1)

theorem sAwardPot_eq {k : Nat} (K : 2^42 ≤ k) {a : Int} {w v1 v2 : List Int} (f : Int) (hw : w.length ≤ 2^40) (h1 : v1.length ≤ 2^40) (h2 : v2.length ≤ 2^40) :
    spec_AwardPot.f k (a, w, ()) v1 v2 f = some (((AwR [(a, w, ())] v1 v2 f).1, (AwR [(a, w, ())] v1 v2 f).2, ()), ()) := by
  unfold spec_AwardPot.f AwR
  simp only [l13Pots_eq K f (show [(a, w, ())].length ≤ 2^40 by simp) (by simpa using hw) h1 h2, Option.bind_some]
  by_cases c : potCode [(a, w, ())] v1 v2 f = 0
  · obtain ⟨c1, c2, c3, c4⟩ := potCode_zero c
    have hn := inB_iff.1 c1
    have hf := inB_iff.1 c4
    obtain ⟨F, rfl⟩ := Int.eq_ofNat_of_zero_le hf.1
    have hp := List.all_eq_true.1 c2 _ (List.mem_singleton.2 rfl)
    simp only [Bool.and_eq_true] at hp
    have ha := inB_iff.1 hp.2
    have e := sAward_eq K hp.1 hw hp.2 c3 (by omega) (by omega) (F := F) (by omega)
    simp only [c, bne_self_eq_false, cond_false, if_true]
    rw [e]
    simp only [Option.bind_some, List.length_singleton, Int.toNat_natCast, awRun_one ha.1 ha.2]
  · have cb : (potCode [(a, w, ())] v1 v2 f != 0) = true := by simp [c]
    simp only [cb, cond_true, if_neg c]

theorem iAwardPot_eq {k : Nat} (K : 2^42 ≤ k) {a : Int} {w v1 v2 : List Int} (f : Int) (hw : w.length ≤ 2^40) (h1 : v1.length ≤ 2^40) (h2 : v2.length ≤ 2^40) :
    impl_AwardPot.f k (a, w, ()) v1 v2 f = some (((AwR [(a, w, ())] v1 v2 f).1, (AwR [(a, w, ())] v1 v2 f).2, ()), ()) := by
  unfold impl_AwardPot.f
  simp only [iAwardPots_eq K f (show [(a, w, ())].length ≤ 6 by simp) (by simpa using hw) h1 h2, Option.bind_some]

theorem AwR_len (ps : List (Int × List Int × Unit)) (v1 v2 : List Int) (f : Int) (h : v1.length ≤ 2^40) : (AwR ps v1 v2 f).1.length ≤ 2^40 := by
  unfold AwR
  split
  · rw [awRun_len]; exact h
  · simp

def StrictTo (l : List Int) (n : Nat) : Prop := ∀ p q, p < q → q < n → l.getD p 0 < l.getD q 0

def Strict (l : List Int) : Prop := StrictTo l l.length

theorem mem_getD {l : List Int} {x : Int} : x ∈ l ↔ ∃ p, p < l.length ∧ l.getD p 0 = x := by
  rw [List.mem_iff_getElem]
  constructor
  · rintro ⟨p, hp, rfl⟩; exact ⟨p, hp, getD_lt hp 0⟩
  · rintro ⟨p, hp, rfl⟩; exact ⟨p, hp, (getD_lt hp 0).symm⟩

theorem set_getD {l : List Int} {a : Nat} (h : a < l.length) (x : Int) (p : Nat) : (l.set a x).getD p 0 = if p = a then x else l.getD p 0 := by
  rw [List.getD_eq_getElem?_getD, List.getD_eq_getElem?_getD, List.getElem?_set]
  by_cases c : a = p
  · subst c; simp [h]
  · rw [if_neg c, if_neg (fun h => c h.symm)]

def W (p : List Int) (m : List Bool) (l : Int) (i : Nat) : List Int := ((List.range i).filter fun j => !m.getD j false && decide (p.getD j 0 ≥ l)).map fun (j : Nat) => (j : Int)

/-- The pots are as payments make them. -/
def potsC (ps : List (Int × List Int × Unit)) (n : Int) : Bool := ps.all fun p => wins p.2.1 n && inB 0 1073741824 p.1

theorem sAwardC_eq {k : Nat} (K : 2^42 ≤ k) {a : Int} {w v1 v2 : List Int} (hw : wins w v1.length = true) (hl : w.length ≤ 2^40) (ha : inB 0 1073741824 a = true) (h12 : v2.length = v1.length) (hS : 0 < v1.length) (hS' : v1.length ≤ 2^20) {F : Nat} (hF : F < 2^40) :
    spec_l13Award.f k (a, w, ()) v1 v2 (F : Int) = some ((awardL a w v1 v2 v1.length F, ()), ()) := by
  unfold spec_l13Award.f awardL
  have ha' := inB_iff.1 ha
  have hh := half ha'.1
  have hall := wins_all hw
  have hb1 := bestL_len true v1 w
  have hb2 := bestL_len false v2 w
  have w1 : IntKind.wrap .i64 (a.tdiv 2) = a.tdiv 2 := wrap_id (by omega) (by omega)
  have w2 : IntKind.wrap .i64 (a - a.tdiv 2) = a - a.tdiv 2 := wrap_id (by omega) (by omega)
  simp only [sBest_eq K hl hall, sBest_eq K hl (vals := v2) (by rw [h12]; exact hall), Option.bind_some, two0, Bool.not_false, cond_true, w1, w2]
  by_cases c1 : 0 < (bestL true v1 w).length
  · by_cases c2 : 0 < (bestL false v2 w).length
    · simp only [gt0 c1, gt0 c2, cond_true, if_pos c1, if_pos c2, sSplit_eq K (show (bestL true v1 w).length ≤ 2^40 by omega) c1 (show 0 ≤ a - a.tdiv 2 by omega) (show a - a.tdiv 2 ≤ 2^40 by omega) hS hS' hF, sSplit_eq K (show (bestL false v2 w).length ≤ 2^40 by omega) c2 hh.1 (show a.tdiv 2 ≤ 2^40 by omega) hS hS' hF, Option.bind_some, l13Add_eq K (show (splitL (bestL false v2 w) v1.length F (a.tdiv 2)).length = (splitL (bestL true v1 w) v1.length F (a - a.tdiv 2)).length by rw [splitL_len, splitL_len]) (by rw [splitL_len]; omega)]
    · simp only [gt0 c1, not_gt0 c2, cond_true, cond_false, if_pos c1, if_neg c2, sSplit_eq K (show (bestL true v1 w).length ≤ 2^40 by omega) c1 ha'.1 (show a ≤ 2^40 by omega) hS hS' hF, Option.bind_some]
  · by_cases c2 : 0 < (bestL false v2 w).length
    · simp only [not_gt0 c1, gt0 c2, cond_true, cond_false, if_neg c1, if_pos c2, sSplit_eq K (show (bestL false v2 w).length ≤ 2^40 by omega) c2 ha'.1 (show a ≤ 2^40 by omega) hS hS' hF, Option.bind_some]
    · simp only [not_gt0 c1, not_gt0 c2, cond_false, if_neg c1, if_neg c2, sSplit_eq K hl (wins_pos hw) ha'.1 (show a ≤ 2^40 by omega) hS hS' hF, Option.bind_some]

theorem wrap_ex (x : Int) : ∃ q, IntKind.wrap .i64 x = x + 18446744073709551616 * q := by
  unfold IntKind.wrap
  simp only [IntKind.signed, IntKind.bits, Bool.true_and]
  split
  · exact ⟨-(x / 18446744073709551616) - 1, by omega⟩
  · exact ⟨-(x / 18446744073709551616), by omega⟩

theorem wrap_mod (x q : Int) : IntKind.wrap .i64 (x + 18446744073709551616 * q) = IntKind.wrap .i64 x := by
  unfold IntKind.wrap
  have e : (x + 18446744073709551616 * q) % 2 ^ IntKind.i64.bits = x % 2 ^ IntKind.i64.bits := by
    show (x + 18446744073709551616 * q) % 18446744073709551616 = x % 18446744073709551616
    omega
  rw [e]

theorem wrap_assoc (a b c : Int) : IntKind.wrap .i64 (IntKind.wrap .i64 (a + b) + c) = IntKind.wrap .i64 (a + IntKind.wrap .i64 (c + b)) := by
  obtain ⟨q, hq⟩ := wrap_ex (a + b)
  obtain ⟨r, hr⟩ := wrap_ex (c + b)
  rw [hq, hr, show a + b + 18446744073709551616 * q + c = (a + b + c) + 18446744073709551616 * q by omega, show a + (c + b + 18446744073709551616 * r) = (a + b + c) + 18446744073709551616 * r by omega, wrap_mod, wrap_mod]

theorem awStep_eq {v1 v2 : List Int} {S F : Nat} {y : List Int} (h : y.length = S) (p : Int × List Int × Unit) : awStep v1 v2 S F y p = addL y (awardL p.1 p.2.1 v1 v2 S F) := by
  unfold awStep
  split
  · rename_i c
    unfold awardL
    rw [if_pos c.1, if_pos c.2]
    have h1 := splitL_len (bestL false v2 p.2.1) S F (p.1.tdiv 2)
    have h2 := splitL_len (bestL true v1 p.2.1) S F (p.1 - p.1.tdiv 2)
    generalize splitL (bestL false v2 p.2.1) S F (p.1.tdiv 2) = lo at *
    generalize splitL (bestL true v1 p.2.1) S F (p.1 - p.1.tdiv 2) = hi at *
    apply List.ext_getElem
    · simp [addL]; omega
    · intro i g1 g2
      simp only [addL, List.getElem_zipWith]
      exact wrap_assoc _ _ _
  · rfl

theorem sAll_eq {k : Nat} (K : 2^42 ≤ k) {ps : List (Int × List Int × Unit)} {v1 v2 : List Int} (hps : potsC ps v1.length = true) (hpl : ps.length ≤ 2^40) (hwl : ∀ p ∈ ps, p.2.1.length ≤ 2^40) (h12 : v2.length = v1.length) (hS : 0 < v1.length) (hS' : v1.length ≤ 2^20) {F : Nat} (hF : F < 2^40) :
    spec_l13All.f k ps v1 v2 (F : Int) = some ((awRun ps v1 v2 v1.length F ps.length, ()), ()) := by
  unfold spec_l13All.f
  have hm : decide ((v1.length : Int) * ((8 : Nat) : Int) ≤ (AM.maxBytes : Int)) = true := by unfold AM.maxBytes; simp; omega
  simp only [nn, Int.le_refl, decide_true, hm, Bool.and_self, cond_true, Int.toNat_natCast]
  refine spec_l13All.l3_for ps.length (fun i a b c d y => ps = a ∧ v1 = b ∧ v2 = c ∧ (F : Int) = d ∧ awRun ps v1 v2 v1.length F i = y) (fun _ _ _ _ _ _ => some ((awRun ps v1 v2 v1.length F ps.length, ()), ())) ?_ k 0 _ _ _ _ _ (Nat.zero_le _) ⟨rfl, rfl, rfl, rfl, rfl⟩ (by omega)
  rintro i _ _ _ _ _ rec hi ⟨rfl, rfl, rfl, rfl, rfl⟩ hrec
  unfold spec_l13All.s3
  by_cases h : i < ps.length
  · have e := hrec _ _ _ _ _ h ⟨rfl, rfl, rfl, rfl, rfl⟩
    rw [awRun_succ h, awStep_eq (awRun_len _ _ _ _ _ _)] at e
    have hp := List.all_eq_true.1 hps ps[i] (List.getElem_mem h)
    simp only [Bool.and_eq_true] at hp
    have hwl' := hwl ps[i] (List.getElem_mem h)
    have hy := awRun_len ps v1 v2 v1.length F i
    simp only [ltD h, nn, Bool.and_self, cond_true, Int.toNat_natCast, getD_lt h, sAwardC_eq K hp.1 hwl' hp.2 h12 hS hS' hF, Option.bind_some, l13Add_eq K (show (awardL ps[i].1 ps[i].2.1 v1 v2 v1.length F).length = (awRun ps v1 v2 v1.length F i).length by rw [awardL_len, hy]) (by omega), wrap_succ (show i < 2^62 by omega)]
    exact e
  · have : i = ps.length := by omega
    subst this
    have c0 : decide ((ps.length : Int) < (ps.length : Int)) = false := by simp
    simp only [c0, cond_false]

theorem rises_of {w : List Int} (h : Strict w) : risesB w = true := by
  have key : ∀ d, d ≤ w.length → risesB (w.drop (w.length - d)) = true := by
    intro d
    induction d with
    | zero => intro _; exact rises_last (by omega)
    | succ d ih =>
      intro hd
      by_cases c : d = 0
      · subst c; exact rises_last (by omega)
      · have e : w.length - (d + 1) + 1 = w.length - d := by omega
        rw [rises_drop (by omega)]
        have h1 := h (w.length - (d + 1)) (w.length - (d + 1) + 1) (by omega) (by omega)
        rw [getD_lt (by omega), getD_lt (by omega)] at h1
        rw [decide_eq_true h1, Bool.true_and, e]
        exact ih (by omega)
  have := key w.length (Nat.le_refl _)
  rwa [Nat.sub_self, List.drop_zero] at this

/-- A source of numbers. -/
def Src (z : List Int) (a b : Int) : Prop := (∀ i, i < z.length → 0 ≤ z.getD i 0 ∧ z.getD i 0 < 256) ∧ z.length ≤ 2^40 ∧ 0 ≤ a ∧ a ≤ z.length ∧ 0 ≤ b ∧ b < 2147483647

theorem tmod_in {x n : Int} (hx : 0 ≤ x) (hn : 0 < n) : 0 ≤ Int.tmod x n ∧ Int.tmod x n < n := ⟨Int.tmod_nonneg _ hx, Int.tmod_lt_of_pos _ hn⟩

theorem next_ok {k : Nat} {z : List Int} {a b : Int} (hs : Src z a b) {n : Int} (hn : n ≤ 2^31) : ∃ r c d, spec_l01Next.f k (z, (a, (b, ()))) n = some ((r, ()), ((z, (c, (d, ()))), ())) ∧ 0 ≤ r ∧ (r < n ∨ r = 0) ∧ Src z c d := by
  obtain ⟨h1, h2, h3, h4, h5, h6⟩ := hs
  unfold spec_l01Next.f
  by_cases c1 : n ≤ 1
  · simp only [decide_eq_true c1, cond_true]
    exact ⟨0, a, b, rfl, by omega, .inr rfl, h1, h2, h3, h4, h5, h6⟩
  have d1 : decide ((2147483647 : Int) = 0) = false := by decide
  have d2 : decide ((31 : Int) = 0) = false := by decide
  have d3 : decide (n = 0) = false := decide_eq_false (by omega)
  have w1 : IntKind.wrap .i64 (b * 48271) = b * 48271 := wrap_id (by omega) (by omega)
  have w2 : IntKind.wrap .i64 (b * 48271 + 29) = b * 48271 + 29 := wrap_id (by omega) (by omega)
  have hb := tmod_in (x := b * 48271 + 29) (n := 2147483647) (by omega) (by omega)
  generalize hb' : Int.tmod (b * 48271 + 29) 2147483647 = b' at *
  have hq : 0 ≤ b'.tdiv 31 ∧ b'.tdiv 31 ≤ b' := ⟨Int.tdiv_nonneg hb.1 (by omega), Int.tdiv_le_self _ hb.1⟩
  have w3 : IntKind.wrap .i64 (b'.tdiv 31) = b'.tdiv 31 := wrap_id (by omega) (by omega)
  simp only [decide_eq_false c1, cond_false, d1, d2, d3, two0, Bool.not_false, cond_true, w1, w2, hb', w3]
  by_cases c2 : a < (z.length : Int)
  · obtain ⟨i, rfl⟩ := Int.eq_ofNat_of_zero_le h3
    have hi : i < z.length := by omega
    have hz := h1 i hi
    have w4 : IntKind.wrap .i64 ((i : Int) + 1 - 1) = (i : Int) := by rw [wrap_id (by omega) (by omega)]; omega
    have w5 : IntKind.wrap .i64 (z.getD i 0) = z.getD i 0 := wrap_id (by omega) (by omega)
    have w6 : IntKind.wrap .i64 (b'.tdiv 31 + z.getD i 0) = b'.tdiv 31 + z.getD i 0 := wrap_id (by omega) (by omega)
    have t1 := tmod_in (x := z.getD i 0) (n := n) hz.1 (by omega)
    have t2 := tmod_in (x := b'.tdiv 31 + z.getD i 0) (n := n) (by omega) (by omega)
    have hsrc : Src z ((i : Int) + 1) b' := ⟨h1, h2, by omega, by omega, hb.1, hb.2⟩
    simp only [decide_eq_true c2, nn, Bool.and_self, cond_true, Int.toNat_natCast, wrap_succ (show i < 2^62 by omega), w4, w5, w6]
    cases decide (n ≤ 256) with
    | false => exact ⟨_, _, _, rfl, t2.1, .inl t2.2, hsrc⟩
    | true =>
      simp only [cond_true]
      cases (Int.tmod ((i : Int) + 1) 2 == 0) with
      | false => exact ⟨_, _, _, rfl, t2.1, .inl t2.2, hsrc⟩
      | true => exact ⟨_, _, _, rfl, t1.1, .inl t1.2, hsrc⟩
  · have t := tmod_in (x := b'.tdiv 31) (n := n) hq.1 (by omega)
    simp only [decide_eq_false c2, cond_false]
    exact ⟨_, _, _, rfl, t.1, .inl t.2, h1, h2, h3, h4, hb.1, hb.2⟩

theorem pick_ok {k : Nat} {z : List Int} {a b : Int} (hs : Src z a b) {l : List Int} (h0 : 0 < l.length) (hl : l.length ≤ 2^20) : ∃ r c d, spec_l01Pick.f k (z, (a, (b, ()))) l = some ((r, ()), ((z, (c, (d, ()))), ())) ∧ r ∈ l ∧ Src z c d := by
  unfold spec_l01Pick.f
  obtain ⟨r, c, d, e, h1, h2, h3⟩ := next_ok (k := k) hs (n := (l.length : Int)) (by omega)
  obtain ⟨i, rfl⟩ := Int.eq_ofNat_of_zero_le h1
  have hi : i < l.length := by omega
  simp only [e, Option.bind_some, nn, ltD hi, Bool.and_self, cond_true, Int.toNat_natCast]
  exact ⟨_, c, d, rfl, mem_getD.2 ⟨i, hi, rfl⟩, h3⟩

theorem loop_exk {V R W : Type} {L : Nat → V → (W → Option R) → Option R} {S : (V → Option R) → (W → Option R) → V → Option R} (hL : ∀ n v kx, L (n + 1) v kx = S (fun w => L n w kx) kx v) (Inv : V → Prop) (μ : V → Nat) (Q : W → Prop)
    (h : ∀ v, Inv v → (∃ w, (∀ rec kx, S rec kx v = kx w) ∧ Q w) ∨ ∃ v', Inv v' ∧ μ v' < μ v ∧ ∀ rec kx, S rec kx v = rec v') : ∀ n v, Inv v → μ v < n → ∃ w, (∀ kx, L n v kx = kx w) ∧ Q w := by
  intro n
  induction n with
  | zero => intro v _ h; omega
  | succ n ih =>
    intro v hv hn
    rcases h v hv with ⟨w, e, q⟩ | ⟨v', i', m', e⟩
    · exact ⟨w, fun kx => by rw [hL, e], q⟩
    · obtain ⟨w, e', q⟩ := ih v' i' (by omega)
      exact ⟨w, fun kx => by rw [hL, e, e'], q⟩

/-- The bytes of a seed. -/
theorem seed_bytes {a0 : List Int} (h : ∀ x ∈ a0, (decide (IntKind.min .u8 ≤ x) && decide (x ≤ IntKind.max .u8)) = true) : ∀ i, i < a0.length → 0 ≤ a0.getD i 0 ∧ a0.getD i 0 < 256 := by
  intro i hi
  have := h (a0.getD i 0) (mem_getD.2 ⟨i, hi, rfl⟩)
  have e1 : IntKind.min .u8 = 0 := rfl
  have e2 : IntKind.max .u8 = 255 := rfl
  rw [e1, e2] at this
  simp only [Bool.and_eq_true, decide_eq_true_eq] at this
  omega

theorem likeInts_self {k : Nat} (K : 2^42 ≤ k) {l : List Int} (hl : l.length ≤ 2^40) : laws_likeInts.f k l l = some ((true, ()), ()) := by
  unfold laws_likeInts.f
  have c : ((l.length : Int) != (l.length : Int)) = false := by simp
  simp only [c, cond_false]
  refine (laws_likeInts.l4_for l.length (fun i a b => l = a ∧ l = b) (fun _ _ _ => some ((true, ()), ())) ?_ k 0 _ _ (Nat.zero_le _) ⟨rfl, rfl⟩ (by omega))
  rintro i _ b rec hi ⟨rfl, hb⟩ hrec
  subst hb
  unfold laws_likeInts.s4
  by_cases h : i < l.length
  · have e := hrec _ _ h ⟨rfl, rfl⟩
    have c2 : (l.getD i 0 != l.getD i 0) = false := by simp
    simp only [ltD h, nn, Bool.and_self, cond_true, Int.toNat_natCast, c2, cond_false, wrap_succ (show i < 2^62 by omega)]
    exact e
  · have : i = l.length := by omega
    subst this
    have c0 : decide ((l.length : Int) < (l.length : Int)) = false := by simp
    simp only [c0, cond_false]

theorem sum_eq {k : Nat} (K : 2^42 ≤ k) {l : List Int} (hl : l.length ≤ 2^20) (hb : ∀ j, j < l.length → -1073741824 ≤ l.getD j 0 ∧ l.getD j 0 ≤ 1073741824) : laws_sum.f k l = some ((l.sum, ()), ()) := by
  unfold laws_sum.f
  have hbd : ∀ i, i ≤ l.length → -(1073741824 * (i : Int)) ≤ (l.take i).sum ∧ (l.take i).sum ≤ 1073741824 * (i : Int) := by
    intro i
    induction i with
    | zero => intro _; simp
    | succ i ih =>
      intro h
      have := ih (by omega)
      have := hb i (by omega)
      rw [getD_lt (by omega)] at this
      rw [sum_take_succ (by omega)]
      omega
  refine (laws_sum.l3_for l.length (fun i a s => l = a ∧ (l.take i).sum = s) (fun _ _ _ => some ((l.sum, ()), ())) ?_ k 0 _ _ (Nat.zero_le _) ⟨rfl, by simp⟩ (by omega))
  rintro i _ _ rec hi ⟨rfl, rfl⟩ hrec
  unfold laws_sum.s3
  by_cases h : i < l.length
  · have e := hrec _ _ h ⟨rfl, rfl⟩
    have h1 := hbd i (by omega)
    have h2 := hb i h
    rw [getD_lt h] at h2
    have hw : IntKind.wrap .i64 ((l.take i).sum + l[i]) = (l.take (i + 1)).sum := by rw [sum_take_succ h, wrap_id (by omega) (by omega)]
    simp only [ltD h, nn, Bool.and_self, cond_true, Int.toNat_natCast, getD_lt h, hw, wrap_succ (show i < 2^62 by omega)]
    exact e
  · have : i = l.length := by omega
    subst this
    have c0 : decide ((l.length : Int) < (l.length : Int)) = false := by simp
    simp only [c0, cond_false, List.take_length]

theorem sum_set : ∀ (l : List Int) (j : Nat) (x : Int), j < l.length → (l.set j x).sum = l.sum - l.getD j 0 + x
  | [], j, x, h => by simp at h
  | y :: l, 0, x, _ => by simp; omega
  | y :: l, j + 1, x, h => by
    have := sum_set l j x (by simpa using h)
    simp only [List.set_cons_succ, List.sum_cons, List.getD_cons_succ, this]
    omega

theorem sum_zero : ∀ (l : List Int), (∀ j, j < l.length → l.getD j 0 = 0) → l.sum = 0
  | [], _ => rfl
  | x :: l, h => by
    have h0 := h 0 (by simp)
    have := sum_zero l (fun j hj => by simpa using h (j + 1) (by simpa using hj))
    simp only [List.getD_cons_zero] at h0
    simp [h0, this]

theorem sub_len : ∀ (L l : List Int), L.Nodup → (∀ x ∈ L, x ∈ l) → L.length ≤ l.length
  | [], l, _, _ => by simp
  | x :: L, l, hn, h => by
    rw [List.nodup_cons] at hn
    have hx := h x (by simp)
    have := sub_len L (l.erase x) hn.2 (fun y hy => (List.mem_erase_of_ne (fun (e : y = x) => hn.1 (e ▸ hy))).2 (h y (by simp [hy])))
    rw [List.length_erase_of_mem hx] at this
    have := List.length_pos_of_mem hx
    simp only [List.length_cons]
    omega

theorem seat_mod {S F i : Nat} (hF : F < S) (hi : i < S) : (F + i) % S = if F + i < S then F + i else F + i - S := by
  split
  · exact Nat.mod_eq_of_lt (by assumption)
  · rw [Nat.mod_eq_sub_mod (by omega)]
    exact Nat.mod_eq_of_lt (by omega)

/-- How many winners the first turns meet. -/
def met (w : List Int) (S F i : Nat) : Nat := ((List.range i).filter fun j => decide ((((F + j) % S : Nat) : Int) ∈ w)).length

theorem met_succ (w : List Int) (S F i : Nat) : met w S F (i + 1) = met w S F i + (if (((F + i) % S : Nat) : Int) ∈ w then 1 else 0) := by
  unfold met
  rw [List.range_succ, List.filter_append, List.length_append]
  by_cases c : (((F + i) % S : Nat) : Int) ∈ w
  · rw [if_pos c]; simp only [List.filter_cons, decide_eq_true c, if_true, List.filter_nil, List.length_cons, List.length_nil]
  · rw [if_neg c]; simp only [List.filter_cons, decide_eq_false c, Bool.false_eq_true, if_false, List.filter_nil, List.length_nil]

theorem wins_strict {w : List Int} {n : Int} (h : wins w n = true) : w.Pairwise (· < ·) := by
  simp only [wins, Bool.and_eq_true] at h
  have hr := h.2.2
  have key : ∀ (l : List Int), risesB l = true → l.Pairwise (· < ·) := by
    intro l
    induction l with
    | nil => intro _; exact List.Pairwise.nil
    | cons x l ih =>
      intro hr
      cases l with
      | nil => simp
      | cons y l =>
        rw [risesB, Bool.and_eq_true, decide_eq_true_eq] at hr
        have := ih hr.2
        rw [List.pairwise_cons]
        refine ⟨fun z hz => ?_, this⟩
        rw [List.pairwise_cons] at this
        rcases List.mem_cons.1 hz with e | e
        · rw [e]; exact hr.1
        · have := this.1 z e; omega
  exact key w hr

theorem met_all {w : List Int} {S F : Nat} (hw : wins w S = true) (hF : F < S) : met w S F S = w.length := by
  have hn : w.Nodup := (wins_strict hw).imp (fun h e => by omega)
  have hin := all_inB (wins_all hw)
  have e : met w S F S = (((List.range S).filter fun j => decide ((((F + j) % S : Nat) : Int) ∈ w)).map fun j => (((F + j) % S : Nat) : Int)).length := by
    rw [List.length_map]; rfl
  rw [e]
  apply Nat.le_antisymm
  · apply sub_len
    · rw [List.Nodup, List.pairwise_map]
      have hp : ((List.range S).filter fun j => decide ((((F + j) % S : Nat) : Int) ∈ w)).Pairwise (fun a b => a < b ∧ b < S) := by
        apply List.Pairwise.filter
        have h1 : (List.range S).Pairwise (· < ·) := List.pairwise_lt_range
        rw [List.pairwise_iff_getElem] at h1 ⊢
        intro i j hi hj hij
        refine ⟨h1 i j hi hj hij, ?_⟩
        rw [List.getElem_range]
        simpa using hj
      refine hp.imp ?_
      rintro a b ⟨h1, h2⟩ he
      have he : (F + a) % S = (F + b) % S := by omega
      rw [seat_mod hF (by omega), seat_mod hF h2] at he
      split at he <;> split at he <;> omega
    · intro x hx
      obtain ⟨j, hj, rfl⟩ := List.mem_map.1 hx
      simpa using (List.mem_filter.1 hj).2
  · apply sub_len _ _ hn
    intro x hx
    have hx' := hin x hx
    obtain ⟨s, rfl⟩ := Int.eq_ofNat_of_zero_le hx'.1
    have hs : s < S := by omega
    have hm : ∃ i, i < S ∧ (F + i) % S = s := by
      by_cases c : F ≤ s
      · exact ⟨s - F, by omega, by rw [seat_mod hF (by omega), if_pos (by omega)]; omega⟩
      · exact ⟨s + S - F, by omega, by rw [seat_mod hF (by omega), if_neg (by omega)]; omega⟩
    obtain ⟨i, hi, he⟩ := hm
    exact List.mem_map.2 ⟨i, List.mem_filter.2 ⟨List.mem_range.2 hi, by rw [he]; simpa using hx⟩, by rw [he]⟩

theorem sp_rest {w : List Int} {S F : Nat} {a : Int} (ha : 0 ≤ a) : ∀ i, (spRun w S F a i).1 = max 0 (a.tmod w.length - (met w S F i : Int))
  | 0 => by
    simp only [spRun, List.range_zero, List.foldl_nil, met, List.filter_nil, List.length_nil]
    have : 0 ≤ a.tmod w.length := Int.tmod_nonneg _ ha
    omega
  | i + 1 => by
    have ih := sp_rest (w := w) (S := S) (F := F) ha i
    rw [spRun_succ, met_succ]
    unfold spStep
    by_cases c : (((F + i) % S : Nat) : Int) ∈ w
    · rw [if_pos c, if_pos c]
      split
      · simp only; omega
      · simp only; omega
    · rw [if_neg c, if_neg c]
      rw [ih]; simp

/-- What the seats have after some turns. -/
theorem sp_seat {w : List Int} {S F : Nat} {a : Int} (hF : F < S) : ∀ i, i ≤ S → ∀ s, s < S → ((∃ j, j < i ∧ (F + j) % S = s) ∧ (s : Int) ∈ w → (spRun w S F a i).2.getD s 0 = a.tdiv w.length ∨ (spRun w S F a i).2.getD s 0 = a.tdiv w.length + 1) ∧ (¬ ((∃ j, j < i ∧ (F + j) % S = s) ∧ (s : Int) ∈ w) → (spRun w S F a i).2.getD s 0 = 0)
  | 0, _, s, hs => by
    refine ⟨fun h => by obtain ⟨⟨j, hj, _⟩, _⟩ := h; omega, fun _ => ?_⟩
    simp only [spRun, List.range_zero, List.foldl_nil]
    rw [getD_lt (by simpa using hs)]
    simp
  | i + 1, hi, s, hs => by
    obtain ⟨h1, h2⟩ := sp_seat (w := w) (a := a) hF i (by omega) s hs
    have hlen := spRun_len w S F a i
    have hm := seat_mod hF (show i < S by omega)
    have hlt : (F + i) % S < S := Nat.mod_lt _ (by omega)
    rw [spRun_succ]
    unfold spStep
    by_cases c : (((F + i) % S : Nat) : Int) ∈ w
    · rw [if_pos c]
      have goal : ∀ v, (v = a.tdiv w.length ∨ v = a.tdiv w.length + 1) → (((∃ j, j < i + 1 ∧ (F + j) % S = s) ∧ (s : Int) ∈ w → ((spRun w S F a i).2.set ((F + i) % S) v).getD s 0 = a.tdiv w.length ∨ ((spRun w S F a i).2.set ((F + i) % S) v).getD s 0 = a.tdiv w.length + 1) ∧ (¬ ((∃ j, j < i + 1 ∧ (F + j) % S = s) ∧ (s : Int) ∈ w) → ((spRun w S F a i).2.set ((F + i) % S) v).getD s 0 = 0)) := by
        intro v hv
        rw [set_getD (by omega)]
        by_cases d : s = (F + i) % S
        · rw [if_pos d]
          refine ⟨fun _ => hv, fun hn => absurd ⟨⟨i, by omega, d.symm⟩, d ▸ c⟩ hn⟩
        · rw [if_neg d]
          refine ⟨fun ⟨⟨j, hj, e⟩, hsw⟩ => h1 ⟨⟨j, by
            by_cases q : j = i
            · subst q; exact absurd e.symm d
            · omega, e⟩, hsw⟩, fun hn => h2 (fun ⟨⟨j, hj, e⟩, hsw⟩ => hn ⟨⟨j, by omega, e⟩, hsw⟩)⟩
      split
      · exact goal _ (.inr rfl)
      · exact goal _ (.inl rfl)
    · rw [if_neg c]
      refine ⟨fun ⟨⟨j, hj, e⟩, hsw⟩ => h1 ⟨⟨j, by
        by_cases q : j = i
        · subst q; rw [← e] at hsw; exact absurd hsw c
        · omega, e⟩, hsw⟩, fun hn => h2 (fun ⟨⟨j, hj, e⟩, hsw⟩ => hn ⟨⟨j, by omega, e⟩, hsw⟩)⟩

theorem sp_sum {w : List Int} {S F : Nat} {a : Int} (hF : F < S) : ∀ i, i ≤ S → (spRun w S F a i).2.sum + (spRun w S F a i).1 = a.tmod w.length + a.tdiv w.length * (met w S F i : Int)
  | 0, _ => by
    simp only [spRun, List.range_zero, List.foldl_nil, met, List.filter_nil, List.length_nil]
    have : (List.replicate S (0 : Int)).sum = 0 := sum_zero _ (fun j hj => by rw [getD_lt hj]; simp)
    rw [this]; simp
  | i + 1, hi => by
    have ih := sp_sum (w := w) (a := a) hF i (by omega)
    have hlen := spRun_len w S F a i
    have hlt : (F + i) % S < S := Nat.mod_lt _ (by omega)
    have h0 : (spRun w S F a i).2.getD ((F + i) % S) 0 = 0 := (sp_seat (w := w) (a := a) hF i (by omega) _ hlt).2 (by
      rintro ⟨⟨j, hj, e⟩, _⟩
      rw [seat_mod hF (by omega), seat_mod hF (by omega)] at e
      split at e <;> split at e <;> omega)
    rw [spRun_succ, met_succ]
    unfold spStep
    by_cases c : (((F + i) % S : Nat) : Int) ∈ w
    · rw [if_pos c, if_pos c]
      have e : a.tdiv w.length * ((met w S F i + 1 : Nat) : Int) = a.tdiv w.length * (met w S F i : Int) + a.tdiv w.length := by
        rw [Int.natCast_succ, Int.mul_add, Int.mul_one]
      rw [e]
      split
      · simp only; rw [sum_set _ _ _ (by omega), h0]; omega
      · simp only; rw [sum_set _ _ _ (by omega), h0]; omega
    · rw [if_neg c, if_neg c, Nat.add_zero]; exact ih

/-- What is split adds up. -/
theorem splitL_sum {w : List Int} {S F : Nat} {a : Int} (hw : wins w S = true) (hF : F < S) (ha : 0 ≤ a) : (splitL w S F a).sum = a := by
  have h1 := sp_sum (w := w) (a := a) hF S (Nat.le_refl _)
  have h2 := sp_rest (w := w) (S := S) (F := F) ha S
  rw [met_all hw hF] at h1 h2
  have hpos := wins_pos hw
  have h3 : a.tmod w.length < w.length := Int.tmod_lt_of_pos _ (by omega)
  have h4 := Int.tmod_add_mul_tdiv a w.length
  have h5 : (w.length : Int) * a.tdiv w.length = a.tdiv w.length * (w.length : Int) := Int.mul_comm _ _
  unfold splitL
  omega

theorem splitL_seat {w : List Int} {S F : Nat} {a : Int} (hw : wins w S = true) (hF : F < S) {s : Nat} (hs : s < S) : ((s : Int) ∈ w → (splitL w S F a).getD s 0 = a.tdiv w.length ∨ (splitL w S F a).getD s 0 = a.tdiv w.length + 1) ∧ ((s : Int) ∉ w → (splitL w S F a).getD s 0 = 0) := by
  obtain ⟨h1, h2⟩ := sp_seat (w := w) (a := a) hF S (Nat.le_refl _) s hs
  have hm : ∃ i, i < S ∧ (F + i) % S = s := by
    by_cases c : F ≤ s
    · exact ⟨s - F, by omega, by rw [seat_mod hF (by omega), if_pos (by omega)]; omega⟩
    · exact ⟨s + S - F, by omega, by rw [seat_mod hF (by omega), if_neg (by omega)]; omega⟩
  exact ⟨fun h => h1 ⟨hm, h⟩, fun h => h2 (fun hh => h hh.2)⟩

theorem l13DrawSeats_ok {k : Nat} {z : List Int} {a b : Int} (hs : Src z a b) : ∃ (S : Nat) (c d : Int), spec_l13DrawSeats.f k (z, (a, (b, ()))) = some (((S : Int), ()), ((z, (c, (d, ()))), ())) ∧ S ≤ 10 ∧ Src z c d := by
  unfold spec_l13DrawSeats.f
  obtain ⟨r, c, d, e, _, _, s⟩ := next_ok (k := k) hs (n := 16) (by omega)
  simp only [e, Option.bind_some]
  cases (r == 0) with
  | true =>
    obtain ⟨r2, c2, d2, e2, h2, s2⟩ := pick_ok (k := k) s (l := [1, 7, 0]) (by simp) (by simp)
    simp only [cond_true, e2, Option.bind_some]
    have : r2 = 1 ∨ r2 = 7 ∨ r2 = 0 := by simpa using h2
    rcases this with rfl | rfl | rfl
    · exact ⟨1, _, _, rfl, by omega, s2⟩
    · exact ⟨7, _, _, rfl, by omega, s2⟩
    · exact ⟨0, _, _, rfl, by omega, s2⟩
  | false =>
    obtain ⟨r2, c2, d2, e2, h2, h2', s2⟩ := next_ok (k := k) s (n := 5) (by omega)
    have w : IntKind.wrap .i64 (2 + r2) = 2 + r2 := wrap_id (by omega) (by omega)
    obtain ⟨S, hS⟩ := Int.eq_ofNat_of_zero_le (show 0 ≤ 2 + r2 by omega)
    have hS' : 2 + r2 = (S : Int) := hS
    rw [hS'] at w
    simp only [cond_false, e2, Option.bind_some, hS', w]
    exact ⟨S, _, _, rfl, by omega, s2⟩

theorem drawW_ok {R : Type} {k : Nat} (K : 2^42 ≤ k) {z : List Int} {a b : Int} (hs : Src z a b) {S : Nat} (hS : S ≤ 10) : ∃ w, (∀ kx, spec_l13DrawWinners.l3 (R := R) k k ((S : Int), (0 : Int), z, a, b, ([] : List Int)) kx = kx w) ∧ ∃ c d y, w = ((S : Int), z, c, d, y) ∧ y.length ≤ S ∧ Src z c d := by
  refine loop_exk (L := fun n v kx => spec_l13DrawWinners.l3 (R := R) k n v kx) (S := fun rec kx v => spec_l13DrawWinners.s3 k rec kx v) (fun _ _ _ => rfl) (fun v => ∃ (i : Nat) (a b : Int) (y : List Int), i ≤ S ∧ v = ((S : Int), (i : Int), z, a, b, y) ∧ y.length ≤ i ∧ Src z a b) (fun v => S - v.2.1.toNat) (fun w => ∃ c d y, w = ((S : Int), z, c, d, y) ∧ y.length ≤ S ∧ Src z c d) ?_ k _ ⟨0, a, b, [], Nat.zero_le _, rfl, by simp, hs⟩ (by simp only [Int.toNat_zero]; omega)
  rintro _ ⟨i, a, b, y, hi, rfl, h1, hs⟩
  unfold spec_l13DrawWinners.s3
  by_cases h : i < S
  · right
    obtain ⟨r, c, d, e1, _, _, s1⟩ := next_ok (k := k) hs (n := 2) (by omega)
    have m1 : decide ((y.length + [(i : Int)].length) * 8 ≤ AM.maxBytes) = true := room (by simp; omega) (by omega)
    cases hr : (r == 0) with
    | true =>
      refine ⟨((S : Int), ((i : Int) + 1), z, c, d, y ++ [(i : Int)]), ⟨i + 1, c, d, _, h, rfl, by simp; omega, s1⟩, by simp only [Int.toNat_natCast]; omega, fun rec kx => ?_⟩
      simp only [ltD h, cond_true, e1, m1, hr, Option.bind_some, wrap_succ (show i < 2^62 by omega)]
    | false =>
      refine ⟨((S : Int), ((i : Int) + 1), z, c, d, y), ⟨i + 1, c, d, _, h, rfl, by omega, s1⟩, by simp only [Int.toNat_natCast]; omega, fun rec kx => ?_⟩
      simp only [ltD h, cond_true, e1, m1, hr, cond_false, Option.bind_some, wrap_succ (show i < 2^62 by omega)]
  · left
    have c0 : decide ((i : Int) < (S : Int)) = false := by simp; omega
    exact ⟨((S : Int), z, a, b, y), fun rec kx => by simp only [c0, cond_false], a, b, y, rfl, by omega, hs⟩

theorem drawV_ok {R : Type} {k : Nat} (K : 2^42 ≤ k) {z : List Int} {a b : Int} (hs : Src z a b) {S : Nat} (hS : S ≤ 10) : ∃ w, (∀ kx, spec_l13DrawValues.l3 (R := R) k k ((S : Int), (0 : Int), z, a, b, ([] : List Int)) kx = kx w) ∧ ∃ c d y, w = (z, c, d, y) ∧ y.length ≤ S ∧ Src z c d := by
  refine loop_exk (L := fun n v kx => spec_l13DrawValues.l3 (R := R) k n v kx) (S := fun rec kx v => spec_l13DrawValues.s3 k rec kx v) (fun _ _ _ => rfl) (fun v => ∃ (i : Nat) (a b : Int) (y : List Int), i ≤ S ∧ v = ((S : Int), (i : Int), z, a, b, y) ∧ y.length ≤ i ∧ Src z a b) (fun v => S - v.2.1.toNat) (fun w => ∃ c d y, w = (z, c, d, y) ∧ y.length ≤ S ∧ Src z c d) ?_ k _ ⟨0, a, b, [], Nat.zero_le _, rfl, by simp, hs⟩ (by simp only [Int.toNat_zero]; omega)
  rintro _ ⟨i, a, b, y, hi, rfl, h1, hs⟩
  unfold spec_l13DrawValues.s3
  by_cases h : i < S
  · right
    obtain ⟨r, c, d, e1, _, _, s1⟩ := next_ok (k := k) hs (n := 4) (by omega)
    have m1 : decide ((y.length + [IntKind.wrap .i64 (r - 1)].length) * 8 ≤ AM.maxBytes) = true := room (by simp; omega) (by omega)
    refine ⟨((S : Int), ((i : Int) + 1), z, c, d, y ++ [IntKind.wrap .i64 (r - 1)]), ⟨i + 1, c, d, _, h, rfl, by simp; omega, s1⟩, by simp only [Int.toNat_natCast]; omega, fun rec kx => ?_⟩
    simp only [ltD h, cond_true, e1, m1, Option.bind_some, wrap_succ (show i < 2^62 by omega)]
  · left
    have c0 : decide ((i : Int) < (S : Int)) = false := by simp; omega
    exact ⟨(z, a, b, y), fun rec kx => by simp only [c0, cond_false], a, b, y, rfl, by omega, hs⟩

theorem l13DrawWinners_ok {k : Nat} (K : 2^42 ≤ k) {z : List Int} {a b : Int} (hs : Src z a b) {S : Nat} (hS : S ≤ 10) : ∃ (y : List Int) (c d : Int), spec_l13DrawWinners.f k (z, (a, (b, ()))) (S : Int) = some ((y, ()), ((z, (c, (d, ()))), ())) ∧ y.length ≤ 20 ∧ Src z c d := by
  unfold spec_l13DrawWinners.f
  obtain ⟨w, e, c, d, y, rfl, hy, s⟩ := drawW_ok (R := (List Int × Unit) × (List Int × Int × Int × Unit) × Unit) K hs hS
  simp only [e]
  cases ((y.length : Int) == 0) with
  | true =>
    obtain ⟨r1, c1, d1, e1, _, _, s1⟩ := next_ok (k := k) s (n := 8) (by omega)
    simp only [cond_true, e1, Option.bind_some]
    cases decide (r1 > 0) with
    | true =>
      have m0 : decide ((y.length + ([(0 : Int)] : List Int).length) * 8 ≤ AM.maxBytes) = true := room (by simp; omega) (by omega)
      simp only [cond_true, m0]
      obtain ⟨r2, c2, d2, e2, _, _, s2⟩ := next_ok (k := k) s1 (n := 20) (by omega)
      simp only [e2, Option.bind_some]
      cases (r2 == 0) with
      | true =>
        obtain ⟨r3, c3, d3, e3, _, s3⟩ := pick_ok (k := k) s2 (l := [0, (S : Int)]) (by simp) (by simp)
        have m3 : decide (((y ++ ([(0 : Int)] : List Int)).length + [r3].length) * 8 ≤ AM.maxBytes) = true := room (by simp; omega) (by omega)
        simp only [cond_true, e3, Option.bind_some, m3]
        exact ⟨_, _, _, rfl, by first | omega | (simp; omega), s3⟩
      | false =>
        simp only [cond_false]
        exact ⟨_, _, _, rfl, by first | omega | (simp; omega), s2⟩
    | false =>
      simp only [cond_false]
      obtain ⟨r2, c2, d2, e2, _, _, s2⟩ := next_ok (k := k) s1 (n := 20) (by omega)
      simp only [e2, Option.bind_some]
      cases (r2 == 0) with
      | true =>
        obtain ⟨r3, c3, d3, e3, _, s3⟩ := pick_ok (k := k) s2 (l := [0, (S : Int)]) (by simp) (by simp)
        have m3 : decide (((y).length + [r3].length) * 8 ≤ AM.maxBytes) = true := room (by simp; omega) (by omega)
        simp only [cond_true, e3, Option.bind_some, m3]
        exact ⟨_, _, _, rfl, by first | omega | (simp; omega), s3⟩
      | false =>
        simp only [cond_false]
        exact ⟨_, _, _, rfl, by first | omega | (simp; omega), s2⟩
  | false =>
    simp only [cond_false]
    obtain ⟨r2, c2, d2, e2, _, _, s2⟩ := next_ok (k := k) s (n := 20) (by omega)
    simp only [e2, Option.bind_some]
    cases (r2 == 0) with
    | true =>
      obtain ⟨r3, c3, d3, e3, _, s3⟩ := pick_ok (k := k) s2 (l := [0, (S : Int)]) (by simp) (by simp)
      have m3 : decide (((y).length + [r3].length) * 8 ≤ AM.maxBytes) = true := room (by simp; omega) (by omega)
      simp only [cond_true, e3, Option.bind_some, m3]
      exact ⟨_, _, _, rfl, by first | omega | (simp; omega), s3⟩
    | false =>
      simp only [cond_false]
      exact ⟨_, _, _, rfl, by first | omega | (simp; omega), s2⟩

theorem l13DrawValues_ok {k : Nat} (K : 2^42 ≤ k) {z : List Int} {a b : Int} (hs : Src z a b) {S : Nat} (hS : S ≤ 10) : ∃ (y : List Int) (c d : Int), spec_l13DrawValues.f k (z, (a, (b, ()))) (S : Int) = some ((y, ()), ((z, (c, (d, ()))), ())) ∧ y.length ≤ 20 ∧ Src z c d := by
  unfold spec_l13DrawValues.f
  obtain ⟨w, e, c, d, y, rfl, hy, s⟩ := drawV_ok (R := (List Int × Unit) × (List Int × Int × Int × Unit) × Unit) K hs hS
  obtain ⟨r2, c2, d2, e2, _, _, s2⟩ := next_ok (k := k) s (n := 24) (by omega)
  have m0 : decide ((y.length + ([(0 : Int)] : List Int).length) * 8 ≤ AM.maxBytes) = true := room (by simp; omega) (by omega)
  simp only [e, e2, Option.bind_some, m0]
  cases (r2 == 0) with
  | true => exact ⟨_, _, _, rfl, by first | omega | (simp; omega), s2⟩
  | false =>
    simp only [cond_false]
    cases (r2 == 1) with
    | true =>
      simp only [cond_true]
      by_cases h : 0 < y.length
      · have h' : decide ((0 : Int) < (y.length : Int)) = true := by simp; omega
        simp only [gt0 h, h', decide_eq_true h, Int.le_refl, decide_true, Bool.and_self, cond_true]
        exact ⟨_, _, _, rfl, by first | omega | (simp; omega), s2⟩
      · simp only [not_gt0 h, cond_false]
        exact ⟨_, _, _, rfl, by omega, s2⟩
    | false => exact ⟨_, _, _, rfl, by omega, s2⟩

theorem hasInt_eq {k : Nat} (K : 2^42 ≤ k) {l : List Int} (hl : l.length ≤ 2^40) (x : Int) : laws_hasInt.f k l x = some ((decide (x ∈ l), ()), ()) := by
  unfold laws_hasInt.f
  refine (laws_hasInt.l2_for l.length (fun i a b => l = a ∧ x = b) (fun i _ _ => some ((decide (x ∈ l.drop i), ()), ())) ?_ k 0 _ _ (Nat.zero_le _) ⟨rfl, rfl⟩ (by omega)).trans (by simp)
  rintro i _ _ rec hi ⟨rfl, rfl⟩ hrec
  unfold laws_hasInt.s2
  by_cases h : i < l.length
  · have e := hrec _ _ h ⟨rfl, rfl⟩
    simp only [ltD h, nn, Bool.and_self, cond_true, Int.toNat_natCast, getD_lt h, wrap_succ (show i < 2^62 by omega), e]
    rw [List.drop_eq_getElem_cons h]
    by_cases c : l[i] = x
    · have c' : (l[i] == x) = true := by rw [beq_iff_eq]; exact c
      simp only [c', cond_true]
      have : x ∈ l[i] :: l.drop (i + 1) := by rw [c]; simp
      rw [decide_eq_true this]
    · have c' : (l[i] == x) = false := by rw [beq_eq_false_iff_ne]; exact c
      simp only [c', cond_false]
      have : (x ∈ l[i] :: l.drop (i + 1)) ↔ (x ∈ l.drop (i + 1)) := by
        rw [List.mem_cons]
        constructor
        · rintro (e | e)
          · exact absurd e.symm c
          · exact e
        · exact .inr
      rw [decide_eq_decide.2 this]
  · have : i = l.length := by omega
    subst this
    have c0 : decide ((l.length : Int) < (l.length : Int)) = false := by simp
    simp only [c0, cond_false, List.drop_length]
    simp

theorem addL_getD {a b : List Int} (hl : b.length = a.length) {i : Nat} (hi : i < a.length) (h1 : 0 ≤ a.getD i 0) (h1' : a.getD i 0 ≤ 2^60) (h2 : 0 ≤ b.getD i 0) (h2' : b.getD i 0 ≤ 2^60) : (addL a b).getD i 0 = a.getD i 0 + b.getD i 0 := by
  rw [getD_lt (show i < (addL a b).length by rw [addL_len hl]; exact hi), addL_get hi (by omega)]
  rw [getD_lt hi] at *
  rw [getD_lt (show i < b.length by omega)] at *
  exact wrap_id (by omega) (by omega)

theorem addL_sum : ∀ (a b : List Int), b.length = a.length → (∀ x ∈ a, 0 ≤ x ∧ x ≤ 2^60) → (∀ x ∈ b, 0 ≤ x ∧ x ≤ 2^60) → (addL a b).sum = a.sum + b.sum
  | [], b, h, _, _ => by
    have : b = [] := List.eq_nil_of_length_eq_zero (by simpa using h)
    subst this; simp [addL]
  | x :: a, [], h, _, _ => by simp at h
  | x :: a, y :: b, h, h1, h2 => by
    have ih := addL_sum a b (by simpa using h) (fun z hz => h1 z (by simp [hz])) (fun z hz => h2 z (by simp [hz]))
    have hx := h1 x (by simp)
    have hy := h2 y (by simp)
    have hw : IntKind.wrap .i64 (x + y) = x + y := wrap_id (by omega) (by omega)
    have : addL (x :: a) (y :: b) = IntKind.wrap .i64 (x + y) :: addL a b := rfl
    rw [this, hw, List.sum_cons, List.sum_cons, List.sum_cons, ih]
    omega

theorem le_sum : ∀ (l : List Int), (∀ x ∈ l, 0 ≤ x) → 0 ≤ l.sum ∧ ∀ x ∈ l, x ≤ l.sum
  | [], _ => by simp
  | y :: l, h => by
    obtain ⟨h0, h1⟩ := le_sum l (fun z hz => h z (by simp [hz]))
    have hy := h y (by simp)
    rw [List.sum_cons]
    refine ⟨by omega, fun x hx => ?_⟩
    rcases List.mem_cons.1 hx with e | e
    · omega
    · have := h1 x e; omega

theorem best_sub (hi : Bool) (v w : List Int) : ∀ i, (bestRun hi v w i).2.Sublist (w.take i)
  | 0 => by simp [bestRun]
  | i + 1 => by
    have ih := best_sub hi v w i
    by_cases h : i < w.length
    · rw [bestRun_succ h, ← List.take_append_getElem h]
      unfold bestStep
      split
      · exact List.Sublist.trans ih (List.sublist_append_left _ _)
      · split
        · exact List.sublist_append_right _ _
        · split
          · exact List.Sublist.append ih (List.Sublist.refl _)
          · exact List.Sublist.trans ih (List.sublist_append_left _ _)
    · have e : w.take (i + 1) = w.take i := by rw [List.take_of_length_le (by omega), List.take_of_length_le (by omega)]
      unfold bestRun at *
      rw [e]; exact ih

theorem best_mem {hi : Bool} {v w : List Int} {x : Int} (h : x ∈ bestL hi v w) : x ∈ w := by
  have := (best_sub hi v w w.length).subset h
  rw [List.take_length] at this
  exact this

theorem best_wins {hi : Bool} {v w : List Int} {n : Int} (h : wins w n = true) (h0 : 0 < (bestL hi v w).length) : wins (bestL hi v w) n = true := by
  have hs := best_sub hi v w w.length
  rw [List.take_length] at hs
  have hp : (bestL hi v w).Pairwise (· < ·) := (wins_strict h).sublist hs
  simp only [wins, Bool.and_eq_true]
  refine ⟨decide_eq_true h0, ?_, rises_of ?_⟩
  · rw [List.all_eq_true]
    intro x hx
    exact inB_iff.2 (all_inB (wins_all h) x (best_mem hx))
  · intro a b hab hb
    rw [getD_lt (by omega), getD_lt hb]
    exact List.pairwise_iff_getElem.1 hp a b (by omega) hb hab

/-- What a split gives. -/
theorem splitL_ok {w : List Int} {S F : Nat} {a : Int} (hw : wins w S = true) (hF : F < S) (ha : 0 ≤ a) : (splitL w S F a).sum = a ∧ (∀ x ∈ splitL w S F a, 0 ≤ x ∧ x ≤ a) ∧ ∀ s, s < S → (splitL w S F a).getD s 0 ≠ 0 → (s : Int) ∈ w := by
  have hs := splitL_sum hw hF ha
  have h0 : ∀ x ∈ splitL w S F a, 0 ≤ x := fun x hx => (spRun_in w S F ha S x hx).1
  have hle := le_sum _ h0
  refine ⟨hs, fun x hx => ⟨h0 x hx, by have := hle.2 x hx; omega⟩, fun s hs h => ?_⟩
  by_cases c : (s : Int) ∈ w
  · exact c
  · exact absurd ((splitL_seat (a := a) hw hF hs).2 c) h

/-- Who gets chips of a pot. -/
def Won (w v1 v2 : List Int) (s : Int) : Prop := s ∈ bestL true v1 w ∨ s ∈ bestL false v2 w ∨ ((bestL true v1 w).length = 0 ∧ (bestL false v2 w).length = 0 ∧ s ∈ w)

theorem Won.mem {w v1 v2 : List Int} {s : Int} (h : Won w v1 v2 s) : s ∈ w := by
  rcases h with h | h | h
  · exact best_mem h
  · exact best_mem h
  · exact h.2.2

theorem getD_nn {l : List Int} {b : Int} (hb : 0 ≤ b) (h : ∀ x ∈ l, 0 ≤ x ∧ x ≤ b) (s : Nat) : 0 ≤ l.getD s 0 ∧ l.getD s 0 ≤ b := by
  by_cases c : s < l.length
  · exact h _ (mem_getD.2 ⟨s, c, rfl⟩)
  · rw [List.getD_eq_getElem?_getD, List.getElem?_eq_none (by omega)]; exact ⟨Int.le_refl _, hb⟩

theorem awardL_ok {w v1 v2 : List Int} {S F : Nat} {a : Int} (hw : wins w S = true) (hF : F < S) (ha : 0 ≤ a) (ha' : a ≤ 1073741824) : (awardL a w v1 v2 S F).sum = a ∧ (∀ x ∈ awardL a w v1 v2 S F, 0 ≤ x ∧ x ≤ a) ∧ ∀ s, s < S → (awardL a w v1 v2 S F).getD s 0 ≠ 0 → Won w v1 v2 s := by
  have hh := half ha
  unfold awardL
  by_cases c1 : 0 < (bestL true v1 w).length
  · rw [if_pos c1]
    by_cases c2 : 0 < (bestL false v2 w).length
    · rw [if_pos c2]
      obtain ⟨a1, a2, a3⟩ := splitL_ok (best_wins (v := v1) (hi := true) hw c1) hF (show 0 ≤ a - a.tdiv 2 by omega)
      obtain ⟨b1, b2, b3⟩ := splitL_ok (best_wins (v := v2) (hi := false) hw c2) hF hh.1
      have l1 := splitL_len (bestL true v1 w) S F (a - a.tdiv 2)
      have l2 := splitL_len (bestL false v2 w) S F (a.tdiv 2)
      generalize splitL (bestL true v1 w) S F (a - a.tdiv 2) = X at *
      generalize splitL (bestL false v2 w) S F (a.tdiv 2) = Y at *
      have g : ∀ s, s < S → (addL X Y).getD s 0 = X.getD s 0 + Y.getD s 0 := by
        intro s hs
        have h1 := getD_nn (by omega) a2 s
        have h2 := getD_nn (by omega) b2 s
        exact addL_getD (by omega) (by omega) h1.1 (by omega) h2.1 (by omega)
      refine ⟨?_, fun x hx => ?_, fun s hs h => ?_⟩
      · rw [addL_sum _ _ (by omega) (fun x hx => by have := a2 x hx; omega) (fun x hx => by have := b2 x hx; omega), a1, b1]; omega
      · obtain ⟨s, hs, rfl⟩ := mem_getD.1 hx
        rw [addL_len (by omega)] at hs
        rw [g s (by omega)]
        have h1 := getD_nn (by omega) a2 s
        have h2 := getD_nn (by omega) b2 s
        omega
      · rw [g s hs] at h
        by_cases c : X.getD s 0 = 0
        · exact .inr (.inl (b3 s hs (by omega)))
        · exact .inl (a3 s hs c)
    · rw [if_neg c2]
      obtain ⟨a1, a2, a3⟩ := splitL_ok (best_wins (v := v1) (hi := true) hw c1) hF ha
      exact ⟨a1, a2, fun s hs h => .inl (a3 s hs h)⟩
  · rw [if_neg c1]
    by_cases c2 : 0 < (bestL false v2 w).length
    · rw [if_pos c2]
      obtain ⟨a1, a2, a3⟩ := splitL_ok (best_wins (v := v2) (hi := false) hw c2) hF ha
      exact ⟨a1, a2, fun s hs h => .inr (.inl (a3 s hs h))⟩
    · rw [if_neg c2]
      obtain ⟨a1, a2, a3⟩ := splitL_ok hw hF ha
      exact ⟨a1, a2, fun s hs h => .inr (.inr ⟨by omega, by omega, a3 s hs h⟩)⟩

/-- The amounts of the first pots; and those of the pots that a seat can win. -/
def amtS (ps : List (Int × List Int × Unit)) (i : Nat) : Int := ((ps.take i).map (·.1)).sum

def ownS (ps : List (Int × List Int × Unit)) (s : Int) (i : Nat) : Int := ((ps.take i).map fun q => if s ∈ q.2.1 then q.1 else 0).sum

theorem amtS_succ {ps : List (Int × List Int × Unit)} {i : Nat} (h : i < ps.length) : amtS ps (i + 1) = amtS ps i + ps[i].1 := by
  unfold amtS; rw [← List.take_append_getElem h, List.map_append, List.sum_append]; simp

theorem ownS_succ {ps : List (Int × List Int × Unit)} {s : Int} {i : Nat} (h : i < ps.length) : ownS ps s (i + 1) = ownS ps s i + (if s ∈ ps[i].2.1 then ps[i].1 else 0) := by
  unfold ownS; rw [← List.take_append_getElem h, List.map_append, List.sum_append]; simp

theorem awRun_ok {ps : List (Int × List Int × Unit)} {v1 v2 : List Int} {S F : Nat} (hps : potsC ps S = true) (hF : F < S) : ∀ i, i ≤ ps.length → i ≤ 1000000 → (awRun ps v1 v2 S F i).sum = amtS ps i ∧ 0 ≤ amtS ps i ∧ amtS ps i ≤ 1073741824 * (i : Int) ∧ ∀ s, s < S → 0 ≤ (awRun ps v1 v2 S F i).getD s 0 ∧ (awRun ps v1 v2 S F i).getD s 0 ≤ ownS ps (s : Int) i ∧ ownS ps (s : Int) i ≤ amtS ps i
  | 0, _, _ => by
    refine ⟨?_, by simp [amtS], by simp [amtS], fun s hs => ?_⟩
    · simp only [awRun, amtS, List.take_zero, List.foldl_nil, List.map_nil, List.sum_nil]
      exact sum_zero _ (fun j hj => by rw [getD_lt hj]; simp)
    · simp only [awRun, ownS, amtS, List.take_zero, List.foldl_nil, List.map_nil, List.sum_nil]
      rw [getD_lt (by simpa using hs)]; simp
  | i + 1, hi, h6 => by
    obtain ⟨g1, g0, g2, g3⟩ := awRun_ok (v1 := v1) (v2 := v2) hps hF i (by omega) (by omega)
    have h : i < ps.length := by omega
    have hp := List.all_eq_true.1 hps ps[i] (List.getElem_mem h)
    simp only [Bool.and_eq_true] at hp
    have ha := inB_iff.1 hp.2
    obtain ⟨a1, a2, a3⟩ := awardL_ok (v1 := v1) (v2 := v2) hp.1 hF ha.1 ha.2
    have l1 := awRun_len ps v1 v2 S F i
    have l2 := awardL_len ps[i].1 ps[i].2.1 v1 v2 S F
    rw [awRun_succ h, awStep_eq l1, amtS_succ h]
    generalize awRun ps v1 v2 S F i = Y at *
    generalize awardL ps[i].1 ps[i].2.1 v1 v2 S F = X at *
    have hY : ∀ x ∈ Y, 0 ≤ x ∧ x ≤ 2^60 := by
      intro x hx
      obtain ⟨s, hs, rfl⟩ := mem_getD.1 hx
      have := g3 s (by omega)
      omega
    refine ⟨?_, by omega, by omega, fun s hs => ?_⟩
    · rw [addL_sum _ _ (by omega) hY (fun x hx => by have := a2 x hx; omega), g1, a1]
    · have q1 := g3 s hs
      have q2 := getD_nn (by omega) a2 s
      rw [addL_getD (by omega) (by omega) q1.1 (by omega) q2.1 (by omega), ownS_succ h]
      by_cases c : X.getD s 0 = 0
      · rw [c]; split <;> omega
      · rw [if_pos (a3 s hs c).mem]; omega

theorem seed_DrawAwardPots {R : Type} {k : Nat} (K : 2^42 ≤ k) {z : List Int} (hz : ∀ i, i < z.length → 0 ≤ z.getD i 0 ∧ z.getD i 0 < 256) (hl : z.length ≤ 2^40) : ∃ w, (∀ kx, spec_DrawAwardPots.i1001_l3 (R := R) k k (z, (0 : Int), z, (0 : Int), (45007 : Int)) kx = kx w) ∧ ∃ b, w = (z, 0, b) ∧ Src z 0 b := by
  refine loop_exk (L := fun n v kx => spec_DrawAwardPots.i1001_l3 (R := R) k n v kx) (S := fun rec kx v => spec_DrawAwardPots.i1001_s3 k rec kx v) (fun _ _ _ => rfl) (fun v => ∃ (i : Nat) (b : Int), v = (z, (i : Int), z, 0, b) ∧ Src z 0 b) (fun v => z.length - v.2.1.toNat) (fun w => ∃ b, w = (z, 0, b) ∧ Src z 0 b) ?_ k _ ⟨0, 45007, rfl, hz, hl, by omega, by omega, by omega, by omega⟩ (by simp only [Int.toNat_zero]; omega)
  rintro _ ⟨i, b, rfl, hs⟩
  unfold spec_DrawAwardPots.i1001_s3
  by_cases h : i < z.length
  · by_cases h' : (i : Int) < 64
    · right
      have hzi := hz i h
      obtain ⟨h1, h2, h3, h4, h5, h6⟩ := hs
      have d1 : decide ((2147483647 : Int) = 0) = false := by decide
      have w1 : IntKind.wrap .i64 (b * 61) = b * 61 := wrap_id (by omega) (by omega)
      have w2 : IntKind.wrap .i64 (z.getD i 0) = z.getD i 0 := wrap_id (by omega) (by omega)
      have w3 : IntKind.wrap .i64 (b * 61 + z.getD i 0) = b * 61 + z.getD i 0 := wrap_id (by omega) (by omega)
      have hb := tmod_in (x := b * 61 + z.getD i 0) (n := 2147483647) (by omega) (by omega)
      refine ⟨(z, ((i : Int) + 1), z, 0, Int.tmod (b * 61 + z.getD i 0) 2147483647), ⟨i + 1, _, rfl, h1, h2, h3, h4, hb.1, hb.2⟩, by simp only [Int.toNat_natCast]; omega, fun rec kx => ?_⟩
      simp only [ltD h, decide_eq_true h', nn, Bool.and_self, cond_true, Int.toNat_natCast, d1, Bool.not_false, w1, w2, w3, wrap_succ (show i < 2^62 by omega)]
    · left
      exact ⟨(z, 0, b), fun rec kx => by simp only [ltD h, decide_eq_false h', cond_true, cond_false], b, rfl, hs⟩
  · left
    have c0 : decide ((i : Int) < (z.length : Int)) = false := by simp; omega
    exact ⟨(z, 0, b), fun rec kx => by simp only [c0, cond_false], b, rfl, hs⟩

theorem seed_DrawAwardPot {R : Type} {k : Nat} (K : 2^42 ≤ k) {z : List Int} (hz : ∀ i, i < z.length → 0 ≤ z.getD i 0 ∧ z.getD i 0 < 256) (hl : z.length ≤ 2^40) : ∃ w, (∀ kx, spec_DrawAwardPot.i1001_l3 (R := R) k k (z, (0 : Int), z, (0 : Int), (45007 : Int), (0 : Int)) kx = kx w) ∧ ∃ b, w = (z, 0, b, 0) ∧ Src z 0 b := by
  refine loop_exk (L := fun n v kx => spec_DrawAwardPot.i1001_l3 (R := R) k n v kx) (S := fun rec kx v => spec_DrawAwardPot.i1001_s3 k rec kx v) (fun _ _ _ => rfl) (fun v => ∃ (i : Nat) (b : Int), v = (z, (i : Int), z, 0, b, 0) ∧ Src z 0 b) (fun v => z.length - v.2.1.toNat) (fun w => ∃ b, w = (z, 0, b, 0) ∧ Src z 0 b) ?_ k _ ⟨0, 45007, rfl, hz, hl, by omega, by omega, by omega, by omega⟩ (by simp only [Int.toNat_zero]; omega)
  rintro _ ⟨i, b, rfl, hs⟩
  unfold spec_DrawAwardPot.i1001_s3
  by_cases h : i < z.length
  · by_cases h' : (i : Int) < 64
    · right
      have hzi := hz i h
      obtain ⟨h1, h2, h3, h4, h5, h6⟩ := hs
      have d1 : decide ((2147483647 : Int) = 0) = false := by decide
      have w1 : IntKind.wrap .i64 (b * 61) = b * 61 := wrap_id (by omega) (by omega)
      have w2 : IntKind.wrap .i64 (z.getD i 0) = z.getD i 0 := wrap_id (by omega) (by omega)
      have w3 : IntKind.wrap .i64 (b * 61 + z.getD i 0) = b * 61 + z.getD i 0 := wrap_id (by omega) (by omega)
      have hb := tmod_in (x := b * 61 + z.getD i 0) (n := 2147483647) (by omega) (by omega)
      refine ⟨(z, ((i : Int) + 1), z, 0, Int.tmod (b * 61 + z.getD i 0) 2147483647, 0), ⟨i + 1, _, rfl, h1, h2, h3, h4, hb.1, hb.2⟩, by simp only [Int.toNat_natCast]; omega, fun rec kx => ?_⟩
      simp only [ltD h, decide_eq_true h', nn, Bool.and_self, cond_true, Int.toNat_natCast, d1, Bool.not_false, w1, w2, w3, wrap_succ (show i < 2^62 by omega)]
    · left
      exact ⟨(z, 0, b, 0), fun rec kx => by simp only [ltD h, decide_eq_false h', cond_true, cond_false], b, rfl, hs⟩
  · left
    have c0 : decide ((i : Int) < (z.length : Int)) = false := by simp; omega
    exact ⟨(z, 0, b, 0), fun rec kx => by simp only [c0, cond_false], b, rfl, hs⟩

theorem DrawAwardPot_ok {k : Nat} (K : 2^42 ≤ k) {z : List Int} (hz : ∀ i, i < z.length → 0 ≤ z.getD i 0 ∧ z.getD i 0 < 256) (hl : z.length ≤ 2^40) : ∃ (a : Int) (w v1 v2 : List Int) (f : Int), spec_DrawAwardPot.f k z = some (((a, (w, ())), (v1, (v2, (f, ())))), ()) ∧ w.length ≤ 100 ∧ v1.length ≤ 100 ∧ v2.length ≤ 100 := by
  unfold spec_DrawAwardPot.f
  obtain ⟨w, e, b, rfl, hs⟩ := seed_DrawAwardPot (R := ((Int × List Int × Unit) × List Int × List Int × Int × Unit) × Unit) K hz hl
  obtain ⟨S, c, d, e1, hS, s1⟩ := l13DrawSeats_ok (k := k) hs
  obtain ⟨r2, c2, d2, e2, _, _, s2⟩ := next_ok (k := k) s1 (n := 100) (by omega)
  obtain ⟨r3, c3, d3, e3, _, s3⟩ := pick_ok (k := k) s2 (l := [0, 1, 9, 10, r2, 600000, 600001]) (by simp) (by simp)
  obtain ⟨y, c4, d4, e4, hy, s4⟩ := l13DrawWinners_ok K s3 hS
  obtain ⟨v1, c5, d5, e5, hv1, s5⟩ := l13DrawValues_ok K s4 hS
  obtain ⟨v2, c6, d6, e6, hv2, s6⟩ := l13DrawValues_ok K s5 hS
  obtain ⟨r7, c7, d7, e7, _, _, s7⟩ := next_ok (k := k) s6 (n := (S : Int)) (by omega)
  simp only [e, e1, e2, e3, e4, e5, e6, e7, Option.bind_some]
  exact ⟨_, y, v1, v2, _, rfl, by omega, by omega, by omega⟩

theorem drawP5_ok {R : Type} {k : Nat} (K : 2^42 ≤ k) {z : List Int} {a b : Int} (hs : Src z a b) {S N : Nat} (hS : S ≤ 10) (hN : N ≤ 4) : ∃ w, (∀ kx, spec_DrawAwardPots.l5 (R := R) k k ((S : Int), (N : Int), z, a, b, ([] : List (Int × List Int × Unit))) kx = kx w) ∧ ∃ c d y, w = ((S : Int), z, c, d, y) ∧ y.length ≤ 4 ∧ (∀ q ∈ y, q.2.1.length ≤ 100) ∧ Src z c d := by
  refine loop_exk (L := fun n v kx => spec_DrawAwardPots.l5 (R := R) k n v kx) (S := fun rec kx v => spec_DrawAwardPots.s5 k rec kx v) (fun _ _ _ => rfl) (fun v => ∃ (i : Nat) (a b : Int) (y : List (Int × List Int × Unit)), v = ((S : Int), (i : Int), z, a, b, y) ∧ y.length + i ≤ 4 ∧ (∀ q ∈ y, q.2.1.length ≤ 100) ∧ Src z a b) (fun v => v.2.1.toNat) (fun w => ∃ c d y, w = ((S : Int), z, c, d, y) ∧ y.length ≤ 4 ∧ (∀ q ∈ y, q.2.1.length ≤ 100) ∧ Src z c d) ?_ k _ ⟨N, a, b, [], rfl, by simpa using hN, by simp, hs⟩ (by simp only [Int.toNat_natCast]; omega)
  rintro _ ⟨i, a, b, y, rfl, h1, h2, hs⟩
  unfold spec_DrawAwardPots.s5
  by_cases h : 0 < i
  · right
    obtain ⟨r, c, d, e1, _, _, s1⟩ := next_ok (k := k) hs (n := 60) (by omega)
    obtain ⟨w, c2, d2, e2, hw, s2⟩ := l13DrawWinners_ok K s1 hS
    have m1 : decide ((y.length + [(r, (w, ()))].length) * 32 ≤ AM.maxBytes) = true := room (by simp; omega) (by omega)
    refine ⟨((S : Int), ((i - 1 : Nat) : Int), z, c2, d2, y ++ [(r, (w, ()))]), ⟨i - 1, c2, d2, _, rfl, by simp; omega, ?_, s2⟩, by simp only [Int.toNat_natCast]; omega, fun rec kx => ?_⟩
    · intro q hq
      rcases List.mem_append.1 hq with e | e
      · exact h2 q e
      · rw [List.mem_singleton] at e; subst e; simp only; omega
    · simp only [gt0 h, cond_true, e1, e2, m1, Option.bind_some, wrap_pred (show i < 2^62 by omega) h]
  · left
    exact ⟨((S : Int), z, a, b, y), fun rec kx => by simp only [not_gt0 h, cond_false], a, b, y, rfl, by omega, h2, hs⟩

theorem drawP9_ok {R : Type} {k : Nat} (K : 2^42 ≤ k) {z : List Int} {a b : Int} (hs : Src z a b) {S : Nat} {y0 : List (Int × List Int × Unit)} (hy0 : y0.length ≤ 8) (hq0 : ∀ q ∈ y0, q.2.1.length ≤ 100) : ∃ w, (∀ kx, spec_DrawAwardPots.l9 (R := R) k k ((S : Int), z, a, b, y0) kx = kx w) ∧ ∃ c d y, w = ((S : Int), z, c, d, y) ∧ y.length ≤ 8 ∧ (∀ q ∈ y, q.2.1.length ≤ 100) ∧ Src z c d := by
  refine loop_exk (L := fun n v kx => spec_DrawAwardPots.l9 (R := R) k n v kx) (S := fun rec kx v => spec_DrawAwardPots.s9 k rec kx v) (fun _ _ _ => rfl) (fun v => ∃ (a b : Int) (y : List (Int × List Int × Unit)), v = ((S : Int), z, a, b, y) ∧ y.length ≤ 8 ∧ (∀ q ∈ y, q.2.1.length ≤ 100) ∧ Src z a b) (fun v => 8 - v.2.2.2.2.length) (fun w => ∃ c d y, w = ((S : Int), z, c, d, y) ∧ y.length ≤ 8 ∧ (∀ q ∈ y, q.2.1.length ≤ 100) ∧ Src z c d) ?_ k _ ⟨a, b, y0, rfl, hy0, hq0, hs⟩ (by simp only; omega)
  rintro _ ⟨a, b, y, rfl, h1, h2, hs⟩
  unfold spec_DrawAwardPots.s9
  obtain ⟨r, c, d, e1, g1, g2, s1⟩ := next_ok (k := k) hs (n := 2) (by omega)
  have w1 : IntKind.wrap .i64 (6 + r) = 6 + r := wrap_id (by omega) (by omega)
  have m1 : decide ((y.length + ([((0 : Int), (([(0 : Int)] : List Int), ()))] : List (Int × ((List Int) × Unit))).length) * 32 ≤ AM.maxBytes) = true := room (by simp; omega) (by omega)
  by_cases h : (y.length : Int) < 6 + r
  · right
    refine ⟨((S : Int), z, c, d, y ++ [((0 : Int), (([(0 : Int)] : List Int), ()))]), ⟨c, d, _, rfl, by simp; omega, ?_, s1⟩, by simp; omega, fun rec kx => ?_⟩
    · intro q hq
      rcases List.mem_append.1 hq with e | e
      · exact h2 q e
      · rw [List.mem_singleton] at e; subst e; simp
    · simp only [e1, Option.bind_some, w1, decide_eq_true h, cond_true, m1]
  · left
    exact ⟨((S : Int), z, c, d, y), fun rec kx => by simp only [e1, Option.bind_some, w1, decide_eq_false h, cond_false], c, d, y, rfl, h1, h2, s1⟩

theorem DrawAwardPots_ok {k : Nat} (K : 2^42 ≤ k) {z : List Int} (hz : ∀ i, i < z.length → 0 ≤ z.getD i 0 ∧ z.getD i 0 < 256) (hl : z.length ≤ 2^40) : ∃ (ps : List (Int × List Int × Unit)) (v1 v2 : List Int) (f : Int), spec_DrawAwardPots.f k z = some ((ps, (v1, (v2, (f, ())))), ()) ∧ ps.length ≤ 8 ∧ (∀ q ∈ ps, q.2.1.length ≤ 2^40) ∧ v1.length ≤ 100 ∧ v2.length ≤ 100 := by
  unfold spec_DrawAwardPots.f
  obtain ⟨w, e, b, rfl, hs⟩ := seed_DrawAwardPots (R := (List (Int × List Int × Unit) × List Int × List Int × Int × Unit) × Unit) K hz hl
  obtain ⟨S, c, d, e1, hS, s1⟩ := l13DrawSeats_ok (k := k) hs
  obtain ⟨r2, c2, d2, e2, g2, g2', s2⟩ := next_ok (k := k) s1 (n := 4) (by omega)
  obtain ⟨N, rfl⟩ := Int.eq_ofNat_of_zero_le g2
  obtain ⟨w3, e3, c3, d3, y, rfl, hy, hq, s3⟩ := drawP5_ok (R := (List (Int × List Int × Unit) × List Int × List Int × Int × Unit) × Unit) K s2 (N := N) hS (by omega)
  obtain ⟨r4, c4, d4, e4, _, _, s4⟩ := next_ok (k := k) s3 (n := 30) (by omega)
  have w1 : IntKind.wrap .i64 ((S : Int) + 1) = (S : Int) + 1 := wrap_id (by omega) (by omega)
  simp only [e, e1, e2, e3, e4, Option.bind_some]
  cases (r4 == 0) with
  | true =>
    obtain ⟨w5, e5, c5, d5, y5, rfl, hy5, hq5, s5⟩ := drawP9_ok (R := (List (Int × List Int × Unit) × List Int × List Int × Int × Unit) × Unit) K s4 (S := S) (y0 := y) (by omega) hq
    obtain ⟨v1, c6, d6, e6, hv1, s6⟩ := l13DrawValues_ok K s5 hS
    obtain ⟨v2, c7, d7, e7, hv2, s7⟩ := l13DrawValues_ok K s6 hS
    obtain ⟨r8, c8, d8, e8, _, _, s8⟩ := next_ok (k := k) s7 (n := (S : Int) + 1) (by omega)
    simp only [cond_true, e5, e6, e7, w1, e8, Option.bind_some]
    exact ⟨_, _, _, _, rfl, by omega, fun q h => by have := hq5 q h; omega, by omega, by omega⟩
  | false =>
    obtain ⟨v1, c6, d6, e6, hv1, s6⟩ := l13DrawValues_ok K s4 hS
    obtain ⟨v2, c7, d7, e7, hv2, s7⟩ := l13DrawValues_ok K s6 hS
    obtain ⟨r8, c8, d8, e8, _, _, s8⟩ := next_ok (k := k) s7 (n := (S : Int) + 1) (by omega)
    simp only [cond_false, e6, e7, w1, e8, Option.bind_some]
    exact ⟨_, _, _, _, rfl, by omega, fun q h => by have := hq q h; omega, by omega, by omega⟩

theorem potsB_C {ps : List (Int × List Int × Unit)} {n : Int} (h : potsB ps n = true) : potsC ps n = true := by
  unfold potsB at h
  unfold potsC
  rw [List.all_eq_true] at *
  intro q hq
  have := h q hq
  simp only [Bool.and_eq_true] at *
  have h2 := inB_iff.1 this.2
  exact ⟨this.1, inB_iff.2 (by omega)⟩

theorem sAwardPots_eq {k : Nat} (K : 2^42 ≤ k) {ps : List (Int × List Int × Unit)} {v1 v2 : List Int} (f : Int) (hpl : ps.length ≤ 6) (hwl : ∀ p ∈ ps, p.2.1.length ≤ 2^40) (h1 : v1.length ≤ 2^40) (h2 : v2.length ≤ 2^40) :
    spec_AwardPots.f k ps v1 v2 f = some (((AwR ps v1 v2 f).1, (AwR ps v1 v2 f).2, ()), ()) := by
  unfold spec_AwardPots.f AwR
  have h6 : decide ((ps.length : Int) > 6) = false := by simp; omega
  simp only [h6, cond_false, l13Pots_eq K f (show ps.length ≤ 2^40 by omega) hwl h1 h2, Option.bind_some]
  by_cases c : potCode ps v1 v2 f = 0
  · obtain ⟨c1, c2, c3, c4⟩ := potCode_zero c
    have hn := inB_iff.1 c1
    have hf := inB_iff.1 c4
    obtain ⟨F, rfl⟩ := Int.eq_ofNat_of_zero_le hf.1
    simp only [c, bne_self_eq_false, cond_false, if_true, Int.toNat_natCast, sAll_eq K (potsB_C c2) (show ps.length ≤ 2^40 by omega) hwl c3 (show 0 < v1.length by omega) (show v1.length ≤ 2^20 by omega) (show F < 2^40 by omega), Option.bind_some]
  · have cb : (potCode ps v1 v2 f != 0) = true := by simp [c]
    simp only [cb, cond_true, if_neg c]

theorem potCode_vals {ps : List (Int × List Int × Unit)} {v1 v2 : List Int} {f : Int} (h : potCode ps v1 v2 f = 0) : valsB v1 = true ∧ valsB v2 = true := by
  unfold potCode at h
  split at h
  · split at h
    · split at h
      · rename_i a b c
        exact ⟨c.1, c.2.2.1⟩
      · omega
    · omega
  · omega

theorem WinR_of {hi : Bool} {w v : List Int} (h1 : inB 2 6 v.length = true) (h2 : wins w v.length = true) (h3 : valsB v = true) : (WinR hi w v).1 = bestL hi v w ∧ ((bestL hi v w).length = 0 → (WinR hi w v).2 = 4) ∧ ((WinR hi w v).2 = 4 → (bestL hi v w).length = 0) := by
  have hc : codeR w v = 0 := by unfold codeR; rw [if_pos h1, if_pos h2, if_pos h3]
  unfold WinR
  rw [if_pos hc]
  by_cases c : (bestL hi v w).length = 0
  · rw [if_pos c]
    exact ⟨(List.eq_nil_of_length_eq_zero c).symm, fun _ => rfl, fun _ => c⟩
  · rw [if_neg c]
    exact ⟨rfl, fun h => absurd h c, fun h => by simp at h⟩

theorem FnAwards_seats {R : Type} {k : Nat} (K : 2^42 ≤ k) {a c1 c2 : Int} {w v1 v2 X : List Int} (hX : X.length ≤ 2^20) (hw : w.length ≤ 2^40) (hc1 : (bestL true v1 w).length = 0 → c1 = 4) (hc2 : (bestL false v2 w).length = 0 → c2 = 4) (hwon : ∀ s, s < X.length → X.getD s 0 ≠ 0 → Won w v1 v2 s) (hnn : ∀ s, s < X.length → 0 ≤ X.getD s 0) (kx2 : List Int × Int × List Int → Option R) (kr : Bool × List Int × Int × List Int → Option R) :
    laws_FnAwards.l24 k k (c1, c2, 0, w, a, X, bestL true v1 w, bestL false v2 w) kx2 kr = kx2 (w, a, X) := by
  have hb1 := bestL_len true v1 w
  have hb2 := bestL_len false v2 w
  refine laws_FnAwards.l24_for X.length (fun i x22 x24 y0 z1 y2 y3 y4 => c1 = x22 ∧ c2 = x24 ∧ w = y0 ∧ a = z1 ∧ X = y2 ∧ bestL true v1 w = y3 ∧ bestL false v2 w = y4) (fun _ _ _ _ _ _ _ _ => kx2 (w, a, X)) ?_ k 0 _ _ _ _ _ _ _ (Nat.zero_le _) ⟨rfl, rfl, rfl, rfl, rfl, rfl, rfl⟩ (by omega)
  rintro i _ _ _ _ _ _ _ rec hi ⟨rfl, rfl, rfl, rfl, rfl, rfl, rfl⟩ hrec
  unfold laws_FnAwards.s24
  by_cases h : i < X.length
  · have e := hrec _ _ _ _ _ _ _ h ⟨rfl, rfl, rfl, rfl, rfl, rfl, rfl⟩
    simp only [ltD h, nn, Bool.and_self, cond_true, Int.toNat_natCast, decide_eq_true h, hasInt_eq K (show (bestL true v1 w).length ≤ 2^40 by omega), hasInt_eq K (show (bestL false v2 w).length ≤ 2^40 by omega), hasInt_eq K hw, Option.bind_some, wrap_succ (show i < 2^62 by omega)]
    by_cases d1 : (i : Int) ∈ bestL true v1 w
    · simp only [decide_eq_true d1, cond_true]
      cases decide (X.getD i 0 > 0) <;> exact e
    · simp only [decide_eq_false d1, cond_false]
      by_cases d2 : (i : Int) ∈ bestL false v2 w
      · simp only [decide_eq_true d2, cond_true]
        cases decide (X.getD i 0 > 0) <;> exact e
      · simp only [decide_eq_false d2, cond_false]
        by_cases d3 : X.getD i 0 > 0
        · rcases hwon i h (by omega) with g | g | ⟨g1, g2, g3⟩
          · exact absurd g d1
          · exact absurd g d2
          · have b1 : (c1 == 4) = true := by rw [beq_iff_eq]; exact hc1 g1
            have b2 : (c2 == 4) = true := by rw [beq_iff_eq]; exact hc2 g2
            simp only [b1, b2, cond_true, decide_eq_true d3, decide_eq_true g3, Bool.not_true, cond_false]
            exact e
        · simp only [decide_eq_false d3, cond_false]
          cases (c1 == 4) <;> cases (c2 == 4) <;> exact e
  · have : i = X.length := by omega
    subst this
    have c0 : decide ((X.length : Int) < (X.length : Int)) = false := by simp
    simp only [c0, cond_false]

theorem FnAwards_amts {R : Type} {k : Nat} (K : 2^42 ≤ k) {ps : List (Int × List Int × Unit)} (hps : ps.length ≤ 1000) (hb : ∀ i, i ≤ ps.length → 0 ≤ amtS ps i ∧ amtS ps i ≤ 2^60) (c a : Int) (w v1 v2 X Y : List Int) (kx0 : Int × Int × List Int × Int × List Int × List Int × List Int × List Int → Option R) :
    laws_FnAwards.l14 k k (c, 0, 0, w, a, v1, v2, X, ps, Y) kx0 = kx0 (c, amtS ps ps.length, w, a, v1, v2, X, Y) := by
  refine laws_FnAwards.l14_for ps.length (fun i x8 x19 y0 z1 y2 y3 y4 y5 y6 => c = x8 ∧ amtS ps i = x19 ∧ w = y0 ∧ a = z1 ∧ v1 = y2 ∧ v2 = y3 ∧ X = y4 ∧ ps = y5 ∧ Y = y6) (fun _ _ _ _ _ _ _ _ _ _ => kx0 (c, amtS ps ps.length, w, a, v1, v2, X, Y)) ?_ k 0 _ _ _ _ _ _ _ _ _ (Nat.zero_le _) ⟨rfl, by simp [amtS], rfl, rfl, rfl, rfl, rfl, rfl, rfl⟩ (by omega)
  rintro i _ _ _ _ _ _ _ _ _ rec hi ⟨rfl, rfl, rfl, rfl, rfl, rfl, rfl, rfl, rfl⟩ hrec
  unfold laws_FnAwards.s14
  by_cases h : i < ps.length
  · have e := hrec _ _ _ _ _ _ _ _ _ h ⟨rfl, rfl, rfl, rfl, rfl, rfl, rfl, rfl, rfl⟩
    have h1 := hb i (by omega)
    have h2 := hb (i + 1) (by omega)
    rw [amtS_succ h] at e h2
    have hw : IntKind.wrap .i64 (amtS ps i + ps[i].1) = amtS ps i + ps[i].1 := wrap_id (by omega) (by omega)
    simp only [ltD h, nn, Bool.and_self, cond_true, Int.toNat_natCast, decide_eq_true h, getD_lt h, hw, wrap_succ (show i < 2^62 by omega)]
    exact e
  · have : i = ps.length := by omega
    subst this
    have c0 : decide ((ps.length : Int) < (ps.length : Int)) = false := by simp
    simp only [c0, cond_false]

theorem awards_tail {k : Nat} (K : 2^42 ≤ k) {a f : Int} {w v1 v2 : List Int} (hw : w.length ≤ 100) (h1 : v1.length ≤ 100) (h2 : v2.length ≤ 100) : (bif ((AwR [(a, w, ())] v1 v2 f).2 != (0 : Int)) then (some ((true, ()), ()) : Option ((Bool × Unit) × Unit)) else (laws_FnAwards.l24 k k ((WinR true w v1).2, (WinR false w v2).2, (0 : Int), w, a, (AwR [(a, w, ())] v1 v2 f).1, (WinR true w v1).1, (WinR false w v2).1) (fun x => ((laws_sum.f k x.2.2).bind fun r37 => (some (((r37.1.1 == x.2.1), ()), ())))) (fun x => (some ((x.1, ()), ()))))) = some ((true, ()), ()) := by
  by_cases c : potCode [(a, w, ())] v1 v2 f = 0
  · obtain ⟨c1, c2, c3, c4⟩ := potCode_zero c
    obtain ⟨c5, c6⟩ := potCode_vals c
    have hn := inB_iff.1 c1
    have hf := inB_iff.1 c4
    obtain ⟨F, rfl⟩ := Int.eq_ofNat_of_zero_le hf.1
    have hp := List.all_eq_true.1 c2 _ (List.mem_singleton.2 rfl)
    simp only [Bool.and_eq_true] at hp
    have ha := inB_iff.1 hp.2
    have hAw : AwR [(a, w, ())] v1 v2 (F : Int) = (awardL a w v1 v2 v1.length F, 0) := by
      unfold AwR
      rw [if_pos c, List.length_singleton, Int.toNat_natCast, awRun_one ha.1 ha.2]
    obtain ⟨g1, g2, g3⟩ := awardL_ok (v1 := v1) (v2 := v2) hp.1 (show F < v1.length by omega) ha.1 (show a ≤ 1073741824 by omega)
    have hlen := awardL_len a w v1 v2 v1.length F
    obtain ⟨u1, u2, _⟩ := WinR_of (hi := true) c1 hp.1 c5
    obtain ⟨t1, t2, _⟩ := WinR_of (hi := false) (v := v2) (by rw [c3]; exact c1) (by rw [c3]; exact hp.1) c6
    have hsum : laws_sum.f k (awardL a w v1 v2 v1.length F) = some ((a, ()), ()) := by
      rw [sum_eq K (by omega) (fun j hj => by have := getD_nn ha.1 g2 j; omega), g1]
    rw [hAw, u1, t1]
    simp only [bne_self_eq_false, cond_false]
    rw [FnAwards_seats K (by omega) (by omega) u2 t2 (fun s hs h => g3 s (by omega) h) (fun s _ => (getD_nn ha.1 g2 s).1)]
    simp only [hsum, Option.bind_some, beq_self_eq_true]
  · have : (AwR [(a, w, ())] v1 v2 f).2 = potCode [(a, w, ())] v1 v2 f := by unfold AwR; rw [if_neg c]
    rw [this]
    have cb : (potCode [(a, w, ())] v1 v2 f != 0) = true := by rw [bne_iff_ne]; exact c
    rw [cb]; rfl

theorem FnAwards_ok (a0 : List Int) {U : Prop} (w0 : U ∧ ∀ x ∈ a0, (decide (IntKind.min .u8 ≤ x) && decide (x ≤ IntKind.max .u8)) = true) : laws_FnAwards.f (2^42) a0 = some ((true, ()), ()) := by
  unfold laws_FnAwards.f laws_big.f
  have K : 2^42 ≤ 2^42 := Nat.le_refl _
  by_cases hb : (a0.length : Int) > 4096
  · simp only [decide_eq_true hb, Option.bind_some, cond_true]
  obtain ⟨a, w, v1, v2, f, e1, hw1, hv1, hv2⟩ := DrawAwardPot_ok K (seed_bytes w0.2) (by omega)
  obtain ⟨ps, u1, u2, g, e2, hpl, hpw, hu1, hu2⟩ := DrawAwardPots_ok K (seed_bytes w0.2) (by omega)
  have tail := awards_tail (a := a) (f := f) K hw1 hv1 hv2
  have hr := AwR_len [(a, w, ())] v1 v2 f (show v1.length ≤ 2^40 by omega)
  simp only [decide_eq_false hb, Option.bind_some, cond_false, e1, e2, sAwardPot_eq K f (show w.length ≤ 2^40 by omega) (show v1.length ≤ 2^40 by omega) (show v2.length ≤ 2^40 by omega), iAwardPot_eq K f (show w.length ≤ 2^40 by omega) (show v1.length ≤ 2^40 by omega) (show v2.length ≤ 2^40 by omega), bne_self_eq_false, likeInts_self K hr, Bool.not_true]
  by_cases h6 : ps.length ≤ 6
  · have hr2 := AwR_len ps u1 u2 g (show u1.length ≤ 2^40 by omega)
    simp only [sAwardPots_eq K g h6 hpw (show u1.length ≤ 2^40 by omega) (show u2.length ≤ 2^40 by omega), iAwardPots_eq K g h6 hpw (show u1.length ≤ 2^40 by omega) (show u2.length ≤ 2^40 by omega), Option.bind_some, bne_self_eq_false, cond_false, likeInts_self K hr2, Bool.not_true]
    by_cases c : potCode ps u1 u2 g = 0
    · obtain ⟨c1, c2, c3, c4⟩ := potCode_zero c
      have hn := inB_iff.1 c1
      have hf := inB_iff.1 c4
      obtain ⟨F, rfl⟩ := Int.eq_ofNat_of_zero_le hf.1
      have hAw : AwR ps u1 u2 (F : Int) = (awRun ps u1 u2 u1.length F ps.length, 0) := by
        unfold AwR
        rw [if_pos c, Int.toNat_natCast]
      have hrun := fun i h => awRun_ok (v1 := u1) (v2 := u2) (potsB_C c2) (show F < u1.length by omega) i h (by omega)
      obtain ⟨q1, q2, q3, q4⟩ := hrun ps.length (Nat.le_refl _)
      have hlen := awRun_len ps u1 u2 u1.length F ps.length
      have hsum : laws_sum.f (2^42) (awRun ps u1 u2 u1.length F ps.length) = some ((amtS ps ps.length, ()), ()) := by
        have hX : ∀ x ∈ awRun ps u1 u2 u1.length F ps.length, 0 ≤ x := by
          intro x hx
          obtain ⟨s, hs, rfl⟩ := mem_getD.1 hx
          exact (q4 s (by omega)).1
        have hb : amtS ps ps.length ≤ 1073741824 ∨ True := .inr trivial
        have hm : ∀ i, i ≤ ps.length → amtS ps i ≤ 600000 * (i : Int) := by
          intro i
          induction i with
          | zero => intro _; simp [amtS]
          | succ i ih =>
            intro hi
            have := ih (by omega)
            have hp := List.all_eq_true.1 c2 ps[i] (List.getElem_mem (by omega))
            simp only [Bool.and_eq_true] at hp
            have := inB_iff.1 hp.2
            rw [amtS_succ (by omega)]
            omega
        have := hm ps.length (Nat.le_refl _)
        rw [sum_eq K (by omega) (fun j hj => by have := q4 j (by omega); omega), q1]
      simp only [hAw, beq_self_eq_true, cond_true]
      rw [FnAwards_amts K (by omega) (fun i hi => by have := hrun i hi; omega)]
      simp only [hsum, Option.bind_some, bne_self_eq_false, cond_false, iHighWinners_eq K (show w.length ≤ 2^40 by omega) (show v1.length ≤ 2^40 by omega), iLowWinners_eq K (show w.length ≤ 2^40 by omega) (show v2.length ≤ 2^40 by omega)]
      exact tail
    · have : (AwR ps u1 u2 g).2 = potCode ps u1 u2 g := by unfold AwR; rw [if_neg c]
      have cb : (potCode ps u1 u2 g == 0) = false := by rw [beq_eq_false_iff_ne]; exact c
      simp only [this, cb, cond_false, Option.bind_some, iHighWinners_eq K (show w.length ≤ 2^40 by omega) (show v1.length ≤ 2^40 by omega), iLowWinners_eq K (show w.length ≤ 2^40 by omega) (show v2.length ≤ 2^40 by omega)]
      exact tail
  · have d6 : decide ((ps.length : Int) > 6) = true := by simp; omega
    have hl0 : laws_likeInts.f (2^42) [] [] = some ((true, ()), ()) := likeInts_self K (by simp)
    have h30 : ((3 : Int) == 0) = false := rfl
    have s1 : spec_AwardPots.f (2^42) ps u1 u2 g = some (([], 3, ()), ()) := by unfold spec_AwardPots.f; simp only [d6, cond_true]
    have s2 : impl_AwardPots.f (2^42) ps u1 u2 g = some (([], 3, ()), ()) := by unfold impl_AwardPots.f; simp only [d6, cond_true]
    simp only [s1, s2, Option.bind_some, bne_self_eq_false, cond_false, hl0, Bool.not_true, h30, iHighWinners_eq K (show w.length ≤ 2^40 by omega) (show v1.length ≤ 2^40 by omega), iLowWinners_eq K (show w.length ≤ 2^40 by omega) (show v2.length ≤ 2^40 by omega)]
    exact tail
end Go.Sh
