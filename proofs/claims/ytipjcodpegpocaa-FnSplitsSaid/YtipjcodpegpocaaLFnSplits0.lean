/- What the Lean functions compute, in plain lists and numbers; conditions stand in each lemma. -/
import Derived.Test.YtipjcodpegpocaaSFnSplits0
set_option linter.unusedVariables false
set_option linter.unusedSimpArgs false
namespace Go.Sh
open Go
theorem l01In_eq (k : Nat) (a lo hi : Int) : spec_l01In.f k a lo hi = some ((inB lo hi a, ()), ()) := by
  unfold spec_l01In.f inB
  by_cases h : lo ≤ a <;> simp [h]

theorem within_eq (k : Nat) (a lo hi : Int) : impl_within.f k a lo hi = some ((inB lo hi a, ()), ()) := by
  unfold impl_within.f inB
  by_cases h : lo ≤ a <;> simp [h]

attribute [simp] l01In_eq within_eq

theorem allWithin_eq {k : Nat} (K : 2^42 ≤ k) {l : List Int} (hl : l.length ≤ 2^40) (a b : Int) : impl_allWithin.f k l a b = some ((l.all (inB a b), ()), ()) := by
  unfold impl_allWithin.f
  refine (impl_allWithin.l2_for l.length (fun _ x1 x2 x9 x10 => a = x1 ∧ b = x2 ∧ l = x9 ∧ (l.length : Int) = x10) (fun i _ _ _ _ => some (((l.drop i).all (inB a b), ()), ())) ?_ k 0 _ _ _ _ (Nat.zero_le _) ⟨rfl, rfl, rfl, rfl⟩ (by omega)).trans (by simp)
  rintro i _ _ _ _ rec hi ⟨rfl, rfl, rfl, rfl⟩ hrec
  unfold impl_allWithin.s2
  by_cases h : i < l.length
  · simp [h, wrap_succ (show i < 2^62 by omega), all_drop h, hrec _ _ _ _ h ⟨rfl, rfl, rfl, rfl⟩]
    cases inB a b l[i] <;> simp
  · have : i = l.length := by omega
    subst this
    simp

/-- Where x stands first. -/
theorem index_eq {k : Nat} (K : 2^42 ≤ k) {l : List Int} (hl : l.length ≤ 2^40) (x : Int) : slices_Index_int64_int64.f k l x = some ((if x ∈ l then ((l.idxOf x : Nat) : Int) else -1, ()), ()) := by
  unfold slices_Index_int64_int64.f
  refine (slices_Index_int64_int64.l2_for l.length (fun i x0 x1 x7 => l = x0 ∧ x = x1 ∧ (l.length : Int) = x7 ∧ ∀ j, j < i → l.getD j 0 ≠ x) (fun i _ _ _ => some ((if x ∈ l then ((l.idxOf x : Nat) : Int) else -1, ()), ())) ?_ k 0 _ _ _ (Nat.zero_le _) ⟨rfl, rfl, rfl, fun j hj => by omega⟩ (by omega))
  rintro i _ _ _ rec hi ⟨rfl, rfl, rfl, hno⟩ hrec
  unfold slices_Index_int64_int64.s2
  by_cases h : i < l.length
  · by_cases hx : x = l[i]
    · have hm : x ∈ l := hx ▸ List.getElem_mem h
      have hidx : l.idxOf x = i := idxOf_first h hx.symm (fun j hj => by have := hno j hj; rwa [getD_lt (show j < l.length by omega)] at this)
      simp [h, hx.symm, hm, hidx]
    · have hb : (x == l[i]) = false := by simp [hx]
      simp only [Int.toNat_natCast, getD_lt h, hb, nn, ltD h, Bool.and_self, wrap_succ (show i < 2^62 by omega), cond_true, cond_false]
      refine hrec _ _ _ h ⟨rfl, rfl, rfl, fun j hj => ?_⟩
      rcases Nat.lt_or_ge j i with e | e
      · exact hno j e
      · have : j = i := by omega
        subst this
        rw [getD_lt h]
        exact fun e => hx e.symm
  · have : i = l.length := by omega
    subst this
    have hm : x ∉ l := by
      intro hm
      obtain ⟨j, hj, e⟩ := List.mem_iff_getElem.1 hm
      exact hno j hj (by rw [getD_lt hj]; exact e)
    simp [hm]

theorem l01Has_eq {k : Nat} (K : 2^42 ≤ k) {l : List Int} (hl : l.length ≤ 2^40) (x : Int) : spec_l01Has.f k l x = some ((decide (x ∈ l), ()), ()) := by
  unfold spec_l01Has.f
  refine (spec_l01Has.l2_for l.length (fun i x0 x1 => l = x0 ∧ x = x1) (fun i _ _ => some ((decide (x ∈ l.drop i), ()), ())) ?_ k 0 _ _ (Nat.zero_le _) ⟨rfl, rfl⟩ (by omega)).trans (by simp)
  rintro i _ _ rec hi ⟨rfl, rfl⟩ hrec
  unfold spec_l01Has.s2
  by_cases h : i < l.length
  · simp only [nn, ltD h, Bool.and_self, Int.toNat_natCast, getD_lt h, wrap_succ (show i < 2^62 by omega), cond_true, hrec _ _ h ⟨rfl, rfl⟩]
    have e : (x ∈ l.drop i) ↔ (l[i] = x ∨ x ∈ l.drop (i + 1)) := by
      rw [List.drop_eq_getElem_cons h, List.mem_cons]
      exact ⟨fun h => h.imp Eq.symm id, fun h => h.imp Eq.symm id⟩
    by_cases hx : l[i] = x
    · simp [hx, e]
    · have hb : (l[i] == x) = false := by simp [hx]
      simp [hx, e, hb]
  · have : i = l.length := by omega
    subst this
    simp

theorem contains_eq {k : Nat} (K : 2^42 ≤ k) {l : List Int} (hl : l.length ≤ 2^40) (x : Int) : slices_Contains_int64_int64.f k l x = some ((decide (x ∈ l), ()), ()) := by
  unfold slices_Contains_int64_int64.f
  rw [index_eq K hl]
  by_cases h : x ∈ l <;> simp [h]

/-- Strictly rising. -/
def risesB : List Int → Bool
  | x :: y :: l => decide (x < y) && risesB (y :: l)
  | _ => true

theorem rises_drop {l : List Int} {i : Nat} (h : i + 1 < l.length) : risesB (l.drop i) = (decide (l[i] < l[i + 1]) && risesB (l.drop (i + 1))) := by
  rw [List.drop_eq_getElem_cons (show i < l.length by omega), List.drop_eq_getElem_cons h, risesB]

theorem rises_last {l : List Int} {i : Nat} (h : l.length ≤ i + 1) : risesB (l.drop i) = true := by
  have : (l.drop i).length ≤ 1 := by rw [List.length_drop]; omega
  match hd : l.drop i, this with
  | [], _ => rfl
  | [_], _ => rfl

theorem increasing_eq {k : Nat} (K : 2^42 ≤ k) {l : List Int} (hl : l.length ≤ 2^40) (h0 : 0 < l.length) : impl_increasing.f k l = some ((risesB l, ()), ()) := by
  unfold impl_increasing.f
  refine (impl_increasing.l2_for l.length (fun i x0 => l = x0 ∧ 1 ≤ i) (fun i _ => some ((risesB (l.drop (i - 1)), ()), ())) ?_ k 1 _ (by omega) ⟨rfl, by omega⟩ (by omega)).trans (by simp)
  rintro i _ rec hi ⟨rfl, h1⟩ hrec
  unfold impl_increasing.s2
  by_cases h : i < l.length
  · have hp : i - 1 < l.length := by omega
    have e : risesB (l.drop (i - 1)) = (decide (l[i - 1] < l[i]) && risesB (l.drop i)) := by
      have e1 : i - 1 + 1 = i := by omega
      have := rises_drop (l := l) (i := i - 1) (by omega)
      simp only [e1] at this
      exact this
    simp only [wrap_pred (show i < 2^62 by omega) (by omega), nn, ltD h, ltD hp, Bool.and_self, Int.toNat_natCast, getD_lt h, getD_lt hp, wrap_succ (show i < 2^62 by omega), cond_true, hrec _ h ⟨rfl, by omega⟩, e, Nat.add_sub_cancel]
    by_cases hx : l[i - 1] < l[i]
    · simp [hx, show ¬ l[i] ≤ l[i - 1] by omega]
    · simp [hx, show l[i] ≤ l[i - 1] by omega]
  · have : i = l.length := by omega
    subst this
    simp [rises_last (l := l) (i := l.length - 1) (by omega)]

theorem l01Rises_eq {k : Nat} (K : 2^42 ≤ k) {l : List Int} (hl : l.length ≤ 2^40) {n : Int} (h0 : 0 ≤ n) (h1 : n ≤ 2^40) : spec_l01Rises.f k l n = some ((l.all (inB 0 (n - 1)) && risesB l, ()), ()) := by
  unfold spec_l01Rises.f
  have hw : IntKind.wrap .i64 (n - 1) = n - 1 := wrap_id (by omega) (by omega)
  refine (spec_l01Rises.l2_for l.length (fun i x0 x1 => l = x0 ∧ n = x1) (fun i _ _ => some (((l.drop i).all (inB 0 (n - 1)) && risesB (l.drop (i - 1)), ()), ())) ?_ k 0 _ _ (by omega) ⟨rfl, rfl⟩ (by omega)).trans (by simp)
  rintro i _ _ rec hi ⟨rfl, rfl⟩ hrec
  unfold spec_l01Rises.s2
  by_cases h : i < l.length
  · simp only [hw, l01In_eq, nn, ltD h, Bool.and_self, Int.toNat_natCast, getD_lt h, wrap_succ (show i < 2^62 by omega), cond_true, hrec _ _ h ⟨rfl, rfl⟩, Option.bind_some, all_drop h, Nat.add_sub_cancel]
    cases hb : inB 0 (n - 1) l[i] with
    | false => simp
    | true =>
      simp only [Bool.not_true, cond_false, Bool.true_and]
      rcases Nat.eq_zero_or_pos i with e0 | e0
      · subst e0
        simp
      · have hp : i - 1 < l.length := by omega
        have e : risesB (l.drop (i - 1)) = (decide (l[i - 1] < l[i]) && risesB (l.drop i)) := by
          have e1 : i - 1 + 1 = i := by omega
          have := rises_drop (l := l) (i := i - 1) (by omega)
          simp only [e1] at this
          exact this
        have hpos : decide ((i : Int) > 0) = true := by simp; exact e0
        simp only [hpos, cond_true, wrap_pred (show i < 2^62 by omega) (by omega), nn, ltD hp, Bool.and_self, Int.toNat_natCast, getD_lt hp, e]
        by_cases hx : l[i - 1] < l[i]
        · simp [hx, show ¬ l[i] ≤ l[i - 1] by omega]
        · simp [hx, show l[i] ≤ l[i - 1] by omega]
  · have : i = l.length := by omega
    subst this
    simp [rises_last (l := l) (i := l.length - 1) (by omega)]

/-- Seats of a pot. -/
def wins (w : List Int) (n : Int) : Bool := decide (0 < w.length) && (w.all (inB 0 (n - 1)) && risesB w)

theorem l13Winners_eq {k : Nat} (K : 2^42 ≤ k) {l : List Int} (hl : l.length ≤ 2^40) {n : Int} (h0 : 0 ≤ n) (h1 : n ≤ 2^40) : spec_l13Winners.f k l n = some ((wins l n, ()), ()) := by
  unfold spec_l13Winners.f wins
  rw [l01Rises_eq K hl h0 h1]
  by_cases h : 0 < l.length <;> simp [h]

theorem areWinners_eq {k : Nat} (K : 2^42 ≤ k) {l : List Int} (hl : l.length ≤ 2^40) {n : Int} (h0 : 0 ≤ n) (h1 : n ≤ 2^40) : impl_areWinners.f k l n = some ((wins l n, ()), ()) := by
  unfold impl_areWinners.f wins
  have hw : IntKind.wrap .i64 (n - 1) = n - 1 := wrap_id (by omega) (by omega)
  by_cases h : 0 < l.length
  · have e : decide ((l.length : Int) > 0) = true := decide_eq_true (by omega)
    simp only [e, cond_true, hw, allWithin_eq K hl, Option.bind_some, h, decide_true, Bool.true_and]
    cases hb : l.all (inB 0 (n - 1)) with
    | false => simp
    | true => simp [increasing_eq K hl h]
  · have e : decide ((l.length : Int) > 0) = false := decide_eq_false (by omega)
    simp [e, h]

/-- One seat's turn: what is left over, and the shares. -/
def spStep (w : List Int) (S F : Nat) (q : Int) (s : Int × List Int) (i : Nat) : Int × List Int :=
  if (((F + i) % S : Nat) : Int) ∈ w then (if s.1 > 0 then (s.1 - 1, s.2.set ((F + i) % S) (q + 1)) else (s.1, s.2.set ((F + i) % S) q)) else s

def spRun (w : List Int) (S F : Nat) (a : Int) (i : Nat) : Int × List Int := (List.range i).foldl (spStep w S F (a.tdiv w.length)) (a.tmod w.length, List.replicate S 0)

/-- The shares. -/
def splitL (w : List Int) (S F : Nat) (a : Int) : List Int := (spRun w S F a S).2

theorem spRun_succ (w : List Int) (S F : Nat) (a : Int) (i : Nat) : spRun w S F a (i + 1) = spStep w S F (a.tdiv w.length) (spRun w S F a i) i := by
  unfold spRun; rw [List.range_succ, List.foldl_append]; rfl

theorem spStep_len (w : List Int) (S F : Nat) (q : Int) (s : Int × List Int) (i : Nat) : (spStep w S F q s i).2.length = s.2.length := by
  unfold spStep; split
  · split <;> simp
  · rfl

theorem spRun_len (w : List Int) (S F : Nat) (a : Int) : ∀ i, (spRun w S F a i).2.length = S
  | 0 => by simp [spRun]
  | i + 1 => by rw [spRun_succ, spStep_len, spRun_len w S F a i]

theorem spRun_rest (w : List Int) (S F : Nat) {a : Int} (h0 : 0 ≤ a) : ∀ i, 0 ≤ (spRun w S F a i).1 ∧ (spRun w S F a i).1 ≤ a
  | 0 => by
    simp only [spRun, List.range_zero, List.foldl_nil]
    obtain ⟨m, rfl⟩ := Int.eq_ofNat_of_zero_le h0
    have e : Int.tmod (m : Int) (w.length : Int) = ((m % w.length : Nat) : Int) := (Int.ofNat_tmod m w.length).symm
    rw [e]
    have := Nat.mod_le m w.length
    omega
  | i + 1 => by
    have := spRun_rest w S F h0 i
    rw [spRun_succ]
    unfold spStep
    split
    · split
      · simp only; omega
      · exact this
    · exact this

theorem div_le {a : Int} {n : Nat} (h0 : 0 ≤ a) : 0 ≤ a.tdiv n ∧ a.tdiv n ≤ a := ⟨Int.tdiv_nonneg h0 (Int.natCast_nonneg n), Int.tdiv_le_self _ h0⟩

theorem tmod_seat {S F i : Nat} (hF : F < 2^40) (hi : i < 2^40) : Int.tmod (IntKind.wrap .i64 ((F : Int) + (i : Int))) (S : Int) = (((F + i) % S : Nat) : Int) := by
  rw [wrap_id (by omega) (by omega)]
  exact (Int.ofNat_tmod (F + i) S).symm

theorem sSplit_eq {k : Nat} (K : 2^42 ≤ k) {w : List Int} (hl : w.length ≤ 2^40) (hw : 0 < w.length) {a : Int} (ha : 0 ≤ a) (ha' : a ≤ 2^40) {S F : Nat} (hS : 0 < S) (hS' : S ≤ 2^20) (hF : F < 2^40) :
    spec_l13Split.f k a w (S : Int) (F : Int) = some ((splitL w S F a, ()), ()) := by
  unfold spec_l13Split.f
  have hm : decide ((S : Int) * ((8 : Nat) : Int) ≤ (AM.maxBytes : Int)) = true := by unfold AM.maxBytes; simp; omega
  have hn : decide ((w.length : Int) = 0) = false := decide_eq_false (by omega)
  simp only [nn, Int.le_refl, decide_true, hm, Bool.and_self, cond_true, hn, Bool.not_false, Int.toNat_natCast]
  refine (spec_l13Split.l5_for S (fun i x0 x1 x2 x3 x10 x11 y => a = x0 ∧ w = x1 ∧ (S : Int) = x2 ∧ (F : Int) = x3 ∧ (w.length : Int) = x10 ∧ (spRun w S F a i).1 = x11 ∧ (spRun w S F a i).2 = y) (fun _ _ _ _ _ _ _ _ => some ((splitL w S F a, ()), ())) ?_ k 0 _ _ _ _ _ _ _ (Nat.zero_le _) ⟨rfl, rfl, rfl, rfl, rfl, rfl, rfl⟩ (by omega))
  rintro i _ _ _ _ _ _ _ rec hi ⟨rfl, rfl, rfl, rfl, rfl, rfl, rfl⟩ hrec
  unfold spec_l13Split.s5
  by_cases h : i < S
  · have ht : (F + i) % S < S := Nat.mod_lt _ hS
    have hlen := spRun_len w S F a i
    have hrest := spRun_rest w S F ha i
    have hq := div_le (n := w.length) ha
    have hS0 : decide ((S : Int) = 0) = false := decide_eq_false (by omega)
    have e := hrec a w (S : Int) (F : Int) (w.length : Int) _ _ h ⟨rfl, rfl, rfl, rfl, rfl, rfl, rfl⟩
    have hwq : IntKind.wrap .i64 (a.tdiv w.length) = a.tdiv w.length := wrap_id (by omega) (by omega)
    have hwq1 : IntKind.wrap .i64 (a.tdiv w.length + 1) = a.tdiv w.length + 1 := wrap_id (by omega) (by omega)
    have hwr : IntKind.wrap .i64 ((spRun w S F a i).1 - 1) = (spRun w S F a i).1 - 1 := wrap_id (by omega) (by omega)
    have htl : (F + i) % S < (spRun w S F a i).2.length := by omega
    simp only [ltD h, tmod_seat hF (show i < 2^40 by omega), hS0, hn, Bool.not_false, cond_true, l01Has_eq K hl, Option.bind_some, nn, hlen, ltD ht, Bool.and_self, Int.toNat_natCast, List.length_set, decide_eq_true ht, hwq, hwr, wrap_succ (show i < 2^62 by omega)]
    rw [spRun_succ] at e
    unfold spStep at e
    by_cases hin : (((F + i) % S : Nat) : Int) ∈ w
    · simp only [hin, decide_true, cond_true]
      rw [if_pos hin] at e
      by_cases hr : (spRun w S F a i).1 > 0
      · rw [if_pos hr] at e
        have hg : ((spRun w S F a i).2.set ((F + i) % S) (a.tdiv w.length)).getD ((F + i) % S) 0 = a.tdiv w.length := by
          rw [getD_lt (by rw [List.length_set]; omega)]; simp
        simp only [decide_eq_true hr, cond_true, hg, hwq1, List.set_set]
        exact e
      · rw [if_neg hr] at e
        simp only [decide_eq_false hr, cond_false]
        exact e
    · simp only [hin, decide_false, cond_false]
      rw [if_neg hin] at e
      exact e
  · have : i = S := by omega
    subst this
    simp [splitL]

theorem iSplit_eq {k : Nat} (K : 2^42 ≤ k) {w : List Int} (hl : w.length ≤ 2^40) (hw : 0 < w.length) {a : Int} (ha : 0 ≤ a) (ha' : a ≤ 2^40) {S F : Nat} (hS : 0 < S) (hS' : S ≤ 2^20) (hF : F < 2^40) :
    impl_splitChips.f k a w (S : Int) (F : Int) = some ((splitL w S F a, ()), ()) := by
  unfold impl_splitChips.f
  have hm : decide ((S : Int) * ((8 : Nat) : Int) ≤ (AM.maxBytes : Int)) = true := by unfold AM.maxBytes; simp; omega
  have hn : decide ((w.length : Int) = 0) = false := decide_eq_false (by omega)
  simp only [nn, Int.le_refl, decide_true, hm, Bool.and_self, cond_true, hn, Bool.not_false, Int.toNat_natCast]
  refine (impl_splitChips.l5_for S (fun i x0 x1 x2 x3 x10 x11 x21 y => a = x0 ∧ w = x1 ∧ (S : Int) = x2 ∧ (F : Int) = x3 ∧ (w.length : Int) = x10 ∧ (spRun w S F a i).1 = x11 ∧ (S : Int) = x21 ∧ (spRun w S F a i).2 = y) (fun _ _ _ _ _ _ _ _ _ => some ((splitL w S F a, ()), ())) ?_ k 0 _ _ _ _ _ _ _ _ (Nat.zero_le _) ⟨rfl, rfl, rfl, rfl, rfl, rfl, rfl, rfl⟩ (by omega))
  rintro i _ _ _ _ _ _ _ _ rec hi ⟨rfl, rfl, rfl, rfl, rfl, rfl, rfl, rfl⟩ hrec
  unfold impl_splitChips.s5
  by_cases h : i < S
  · have ht : (F + i) % S < S := Nat.mod_lt _ hS
    have hlen := spRun_len w S F a i
    have hrest := spRun_rest w S F ha i
    have hq := div_le (n := w.length) ha
    have hS0 : decide ((S : Int) = 0) = false := decide_eq_false (by omega)
    have e := hrec a w (S : Int) (F : Int) (w.length : Int) _ (S : Int) _ h ⟨rfl, rfl, rfl, rfl, rfl, rfl, rfl, rfl⟩
    have hwq : IntKind.wrap .i64 (a.tdiv w.length) = a.tdiv w.length := wrap_id (by omega) (by omega)
    have hwq1 : IntKind.wrap .i64 (a.tdiv w.length + 1) = a.tdiv w.length + 1 := wrap_id (by omega) (by omega)
    have hwr : IntKind.wrap .i64 ((spRun w S F a i).1 - 1) = (spRun w S F a i).1 - 1 := wrap_id (by omega) (by omega)
    have htl : (F + i) % S < (spRun w S F a i).2.length := by omega
    simp only [ltD h, tmod_seat hF (show i < 2^40 by omega), hS0, hn, Bool.not_false, cond_true, contains_eq K hl, Option.bind_some, nn, hlen, ltD ht, Bool.and_self, Int.toNat_natCast, List.length_set, decide_eq_true ht, hwq, hwr, wrap_succ (show i < 2^62 by omega)]
    rw [spRun_succ] at e
    unfold spStep at e
    by_cases hin : (((F + i) % S : Nat) : Int) ∈ w
    · simp only [hin, decide_true, Bool.not_true, cond_false]
      rw [if_pos hin] at e
      by_cases hr : (spRun w S F a i).1 > 0
      · rw [if_pos hr] at e
        have hg : ((spRun w S F a i).2.set ((F + i) % S) (a.tdiv w.length)).getD ((F + i) % S) 0 = a.tdiv w.length := by
          rw [getD_lt (by rw [List.length_set]; omega)]; simp
        simp only [decide_eq_true hr, cond_true, hg, hwq1, List.set_set]
        exact e
      · rw [if_neg hr] at e
        simp only [decide_eq_false hr, cond_false]
        exact e
    · simp only [hin, decide_false, Bool.not_false, cond_true]
      rw [if_neg hin] at e
      exact e
  · have : i = S := by omega
    subst this
    simp [splitL]

/-- What SplitChips returns. -/
def SplR (a : Int) (w : List Int) (n f : Int) : List Int × Int :=
  if inB 2 6 n = true then (if wins w n = true then (if inB 0 600000 a = true ∧ inB 0 (n - 1) f = true then (splitL w n.toNat f.toNat a, 0) else ([], 2)) else ([], 1)) else ([], 2)

theorem inB_iff {a b x : Int} : inB a b x = true ↔ a ≤ x ∧ x ≤ b := by simp [inB]

theorem wins_pos {w : List Int} {n : Int} (h : wins w n = true) : 0 < w.length := by simp only [wins, Bool.and_eq_true, decide_eq_true_eq] at h; exact h.1

theorem sSplitChips_eq {k : Nat} (K : 2^42 ≤ k) {a : Int} {w : List Int} {n f : Int} (hl : w.length ≤ 2^40) : spec_SplitChips.f k a w n f = some (((SplR a w n f).1, (SplR a w n f).2, ()), ()) := by
  unfold spec_SplitChips.f spec_l13Seats.f spec_l13Amount.f SplR
  simp only [l01In_eq, Option.bind_some]
  cases h1 : inB 2 6 n with
  | false => simp
  | true =>
    have hn := inB_iff.1 h1
    simp only [Bool.not_true, cond_false, if_true, l13Winners_eq K hl (show 0 ≤ n by omega) (show n ≤ 2^40 by omega), Option.bind_some]
    cases h2 : wins w n with
    | false => simp
    | true =>
      simp only [Bool.not_true, cond_false, if_true]
      cases h3 : inB 0 600000 a with
      | false => simp
      | true =>
        have ha := inB_iff.1 h3
        have hw : IntKind.wrap .i64 (n - 1) = n - 1 := wrap_id (by omega) (by omega)
        simp only [Bool.not_true, cond_false, true_and, hw]
        cases h4 : inB 0 (n - 1) f with
        | false => simp
        | true =>
          have hf := inB_iff.1 h4
          obtain ⟨S, rfl⟩ := Int.eq_ofNat_of_zero_le (show 0 ≤ n by omega)
          obtain ⟨F, rfl⟩ := Int.eq_ofNat_of_zero_le (show 0 ≤ f by omega)
          simp only [Int.ofNat_eq_natCast] at *
          simp only [Bool.not_true, cond_false, if_true, sSplit_eq K hl (wins_pos h2) ha.1 (show a ≤ 2^40 by omega) (show 0 < S by omega) (show S ≤ 2^20 by omega) (show F < 2^40 by omega), Option.bind_some, Int.toNat_natCast]

theorem iSplitChips_eq {k : Nat} (K : 2^42 ≤ k) {a : Int} {w : List Int} {n f : Int} (hl : w.length ≤ 2^40) : impl_SplitChips.f k a w n f = some (((SplR a w n f).1, (SplR a w n f).2, ()), ()) := by
  unfold impl_SplitChips.f SplR
  simp only [within_eq, Option.bind_some]
  cases h1 : inB 2 6 n with
  | false => simp
  | true =>
    have hn := inB_iff.1 h1
    simp only [Bool.not_true, cond_false, if_true, areWinners_eq K hl (show 0 ≤ n by omega) (show n ≤ 2^40 by omega), Option.bind_some]
    cases h2 : wins w n with
    | false => simp
    | true =>
      simp only [Bool.not_true, cond_false, if_true]
      cases h3 : inB 0 600000 a with
      | false => simp
      | true =>
        have ha := inB_iff.1 h3
        have hw : IntKind.wrap .i64 (n - 1) = n - 1 := wrap_id (by omega) (by omega)
        simp only [Bool.not_true, cond_false, true_and, hw]
        cases h4 : inB 0 (n - 1) f with
        | false => simp
        | true =>
          have hf := inB_iff.1 h4
          obtain ⟨S, rfl⟩ := Int.eq_ofNat_of_zero_le (show 0 ≤ n by omega)
          obtain ⟨F, rfl⟩ := Int.eq_ofNat_of_zero_le (show 0 ≤ f by omega)
          simp only [Int.ofNat_eq_natCast] at *
          simp only [Bool.not_true, cond_false, if_true, iSplit_eq K hl (wins_pos h2) ha.1 (show a ≤ 2^40 by omega) (show 0 < S by omega) (show S ≤ 2^20 by omega) (show F < 2^40 by omega), Option.bind_some, Int.toNat_natCast]

theorem SplR_len (a : Int) (w : List Int) (n f : Int) : (SplR a w n f).1.length ≤ 2^40 := by
  unfold SplR
  split
  · rename_i h1
    have hn := inB_iff.1 h1
    split
    · split
      · simp only [splitL, spRun_len]; omega
      · simp
    · simp
  · simp

/-- One seat's turn: the best value so far (below 0: none), and who has it. -/
def bestStep (hi : Bool) (vals : List Int) (s : Int × List Int) (w : Int) : Int × List Int :=
  if vals.getD w.toNat 0 < 0 then s else if s.1 < 0 ∨ (hi = true ∧ vals.getD w.toNat 0 > s.1) ∨ (hi = false ∧ vals.getD w.toNat 0 < s.1) then (vals.getD w.toNat 0, [w]) else if vals.getD w.toNat 0 = s.1 then (s.1, s.2 ++ [w]) else s

def bestRun (hi : Bool) (vals ws : List Int) (i : Nat) : Int × List Int := (ws.take i).foldl (bestStep hi vals) (-1, [])

def bestL (hi : Bool) (vals ws : List Int) : List Int := (bestRun hi vals ws ws.length).2

theorem bestRun_succ {hi : Bool} {vals ws : List Int} {i : Nat} (h : i < ws.length) : bestRun hi vals ws (i + 1) = bestStep hi vals (bestRun hi vals ws i) ws[i] := by
  unfold bestRun; rw [← List.take_append_getElem h, List.foldl_append]; rfl

theorem bestRun_len (hi : Bool) (vals ws : List Int) : ∀ i, (bestRun hi vals ws i).2.length ≤ i
  | 0 => by simp [bestRun]
  | i + 1 => by
    by_cases h : i < ws.length
    · have := bestRun_len hi vals ws i
      rw [bestRun_succ h]
      unfold bestStep
      split
      · omega
      · split
        · simp
        · split
          · simp; omega
          · omega
    · have e : ws.take (i + 1) = ws.take i := by rw [List.take_of_length_le (by omega), List.take_of_length_le (by omega)]
      unfold bestRun at *
      rw [e]
      have := bestRun_len hi vals ws i
      unfold bestRun at this
      omega

theorem sBest_eq {k : Nat} (K : 2^42 ≤ k) {ws vals : List Int} (hl : ws.length ≤ 2^40) (hv : ws.all (inB 0 ((vals.length : Int) - 1)) = true) (hi : Bool) : spec_l13Best.f k ws vals hi = some ((bestL hi vals ws, ()), ()) := by
  unfold spec_l13Best.f
  refine (spec_l13Best.l4_for ws.length (fun i x0 x1 x2 x8 y => ws = x0 ∧ vals = x1 ∧ hi = x2 ∧ (bestRun hi vals ws i).1 = x8 ∧ (bestRun hi vals ws i).2 = y) (fun _ _ _ _ _ _ => some ((bestL hi vals ws, ()), ())) ?_ k 0 _ _ _ _ _ (Nat.zero_le _) ⟨rfl, rfl, rfl, rfl, rfl⟩ (by omega))
  rintro i _ _ _ _ _ rec hi' ⟨rfl, rfl, rfl, rfl, rfl⟩ hrec
  unfold spec_l13Best.s4
  by_cases h : i < ws.length
  · have hb := all_inB hv ws[i] (List.getElem_mem h)
    have e := hrec ws vals hi _ _ h ⟨rfl, rfl, rfl, rfl, rfl⟩
    rw [bestRun_succ h] at e
    unfold bestStep at e
    have hlen := bestRun_len hi vals ws i
    obtain ⟨j, hj⟩ := Int.eq_ofNat_of_zero_le hb.1
    have hj' : ws[i] = (j : Int) := hj
    have hjl : j < vals.length := by omega
    have hr : decide (((bestRun hi vals ws i).2.length + 1) * 8 ≤ AM.maxBytes) = true := room (by omega) (by omega)
    rw [hj'] at e
    simp only [Int.toNat_natCast] at e
    simp only [nn, ltD h, Bool.and_self, Int.toNat_natCast, getD_lt h, hj', ltD hjl, wrap_succ (show i < 2^62 by omega), cond_true, List.length_singleton, hr]
    generalize bestRun hi vals ws i = s at *
    obtain ⟨v, hv'⟩ : ∃ v, vals.getD j 0 = v := ⟨_, rfl⟩
    simp only [hv'] at e ⊢
    by_cases c1 : v < 0
    · rw [if_pos c1] at e
      simp only [decide_eq_true c1, cond_true, e]
    · rw [if_neg c1] at e
      simp only [decide_eq_false c1, cond_false]
      by_cases c2 : s.1 < 0
      · rw [if_pos (.inl c2)] at e
        simp only [decide_eq_true c2, cond_true, e]
      · simp only [decide_eq_false c2, cond_false]
        cases hi with
        | true =>
          by_cases c3 : v > s.1
          · rw [if_pos (.inr (.inl ⟨rfl, c3⟩))] at e
            simp only [decide_eq_true c3, cond_true, e]
          · rw [if_neg (by simp; omega)] at e
            simp only [decide_eq_false c3, cond_true, cond_false, Bool.not_true]
            by_cases c4 : v = s.1
            · rw [if_pos c4] at e
              simp only [c4, beq_self_eq_true, cond_true, e]
            · rw [if_neg c4] at e
              have hb4 : (v == s.1) = false := by simp [c4]
              simp only [hb4, cond_false, e]
        | false =>
          by_cases c3 : v < s.1
          · rw [if_pos (.inr (.inr ⟨rfl, c3⟩))] at e
            simp only [decide_eq_true c3, cond_true, cond_false, Bool.not_false, e]
          · rw [if_neg (by simp; omega)] at e
            simp only [decide_eq_false c3, cond_true, cond_false, Bool.not_false]
            by_cases c4 : v = s.1
            · rw [if_pos c4] at e
              simp only [c4, beq_self_eq_true, cond_true, e]
            · rw [if_neg c4] at e
              have hb4 : (v == s.1) = false := by simp [c4]
              simp only [hb4, cond_false, e]
  · have : i = ws.length := by omega
    subst this
    simp [bestL]

theorem bestRun_low (vals ws : List Int) : ∀ i, (bestRun true vals ws i).1 < 0 → (bestRun true vals ws i).2 = []
  | 0 => by simp [bestRun]
  | i + 1 => by
    by_cases h : i < ws.length
    · have := bestRun_low vals ws i
      rw [bestRun_succ h]
      unfold bestStep
      split
      · exact this
      · split
        · intro hlt; simp only at hlt; omega
        · rename_i c1 c2
          split
          · intro hlt; simp only at hlt; exact absurd (.inl hlt) c2
          · intro hlt; exact absurd (.inl hlt) c2
    · have e : ws.take (i + 1) = ws.take i := by rw [List.take_of_length_le (by omega), List.take_of_length_le (by omega)]
      have := bestRun_low vals ws i
      unfold bestRun at *
      rw [e]
      exact this

theorem iHigh_eq {k : Nat} (K : 2^42 ≤ k) {ws vals : List Int} (hl : ws.length ≤ 2^40) (hv : ws.all (inB 0 ((vals.length : Int) - 1)) = true) : impl_highWinners.f k ws vals = some ((bestL true vals ws, ()), ()) := by
  unfold impl_highWinners.f
  refine (impl_highWinners.l4_for ws.length (fun i x1 x6 x9 x10 y => vals = x1 ∧ max 0 (bestRun true vals ws i).1 = x6 ∧ ws = x9 ∧ (ws.length : Int) = x10 ∧ (bestRun true vals ws i).2 = y) (fun _ _ _ _ _ _ => some ((bestL true vals ws, ()), ())) ?_ k 0 _ _ _ _ _ (Nat.zero_le _) ⟨rfl, rfl, rfl, rfl, rfl⟩ (by omega))
  rintro i _ _ _ _ _ rec hi' ⟨rfl, rfl, rfl, rfl, rfl⟩ hrec
  unfold impl_highWinners.s4
  by_cases h : i < ws.length
  · have hb := all_inB hv ws[i] (List.getElem_mem h)
    have e := hrec vals _ ws _ _ h ⟨rfl, rfl, rfl, rfl, rfl⟩
    have hlen := bestRun_len true vals ws i
    have hlow := bestRun_low vals ws i
    obtain ⟨j, hj⟩ := Int.eq_ofNat_of_zero_le hb.1
    have hj' : ws[i] = (j : Int) := hj
    have hjl : j < vals.length := by omega
    have hr : decide (((bestRun true vals ws i).2.length + 1) * 8 ≤ AM.maxBytes) = true := room (by omega) (by omega)
    have hr1 : decide (1 * 8 ≤ AM.maxBytes) = true := room (by omega) (by omega)
    rw [bestRun_succ h, hj'] at e
    obtain ⟨v, hv'⟩ : ∃ v, vals.getD j 0 = v := ⟨_, rfl⟩
    simp only [nn, ltD h, Bool.and_self, Int.toNat_natCast, getD_lt h, hj', ltD hjl, wrap_succ (show i < 2^62 by omega), cond_true, List.length_singleton, hr, hr1, beq_self_eq_true, hv']
    generalize bestRun true vals ws i = s at *
    have step : ∀ q, (if v < 0 then s else if s.1 < 0 ∨ v > s.1 then (v, [(j : Int)]) else if v = s.1 then (s.1, s.2 ++ [(j : Int)]) else s) = q → rec (vals, max 0 q.1, ws, (ws.length : Int), (i : Int) + 1, q.2) = some ((bestL true vals ws, ()), ()) := by
      intro q hq
      have : bestStep true vals s (j : Int) = q := by
        rw [← hq]
        unfold bestStep
        simp only [Int.toNat_natCast, hv', true_and, Bool.true_eq_false, false_and, or_false]
      rw [this] at e
      exact e
    clear e
    by_cases c1 : v < 0
    · have e := step s (by rw [if_pos c1])
      have c3 : ¬ v > max 0 s.1 := by omega
      have c4 : (v == max 0 s.1) = false := by simp only [beq_eq_false_iff_ne]; omega
      simp only [decide_eq_false c3, c4, cond_false, e]
    · by_cases c2 : s.1 < 0
      · have e := step (v, [(j : Int)]) (by rw [if_neg c1, if_pos (.inl c2)])
        have hm : max 0 s.1 = 0 := by omega
        simp only [hm]
        have hmv : max 0 v = v := by omega
        simp only [hmv] at e
        by_cases c3 : v > 0
        · simp only [decide_eq_true c3, cond_true, e]
        · have : v = 0 := by omega
          subst this
          have hnil := hlow c2
          simp only [hnil, Int.lt_irrefl, decide_false, cond_false, beq_self_eq_true, cond_true, List.nil_append, gt_iff_lt, e]
      · have hm : max 0 s.1 = s.1 := by omega
        simp only [hm]
        by_cases c3 : v > s.1
        · have e := step (v, [(j : Int)]) (by rw [if_neg c1, if_pos (.inr c3)])
          have hmv : max 0 v = v := by omega
          simp only [hmv] at e
          simp only [decide_eq_true c3, cond_true, e]
        · by_cases c4 : v = s.1
          · have e := step (s.1, s.2 ++ [(j : Int)]) (by rw [if_neg c1, if_neg (by omega), if_pos c4])
            simp only [hm] at e
            simp only [decide_eq_false c3, cond_false, c4, beq_self_eq_true, cond_true, e]
            simp only [Int.lt_irrefl, gt_iff_lt, decide_false, cond_false]
          · have e := step s (by rw [if_neg c1, if_neg (by omega), if_neg c4])
            simp only [hm] at e
            have hb4 : (v == s.1) = false := by simp [c4]
            simp only [decide_eq_false c3, cond_false, hb4, e]
  · have : i = ws.length := by omega
    subst this
    simp [bestL]

theorem iLow_eq {k : Nat} (K : 2^42 ≤ k) {ws vals : List Int} (hl : ws.length ≤ 2^40) (hv : ws.all (inB 0 ((vals.length : Int) - 1)) = true) : impl_lowWinners.f k ws vals = some ((bestL false vals ws, ()), ()) := by
  unfold impl_lowWinners.f
  refine (impl_lowWinners.l4_for ws.length (fun i x1 x6 x9 x10 y => vals = x1 ∧ (bestRun false vals ws i).1 = x6 ∧ ws = x9 ∧ (ws.length : Int) = x10 ∧ (bestRun false vals ws i).2 = y) (fun _ _ _ _ _ _ => some ((bestL false vals ws, ()), ())) ?_ k 0 _ _ _ _ _ (Nat.zero_le _) ⟨rfl, by simp [bestRun], rfl, rfl, rfl⟩ (by omega))
  rintro i _ _ _ _ _ rec hi' ⟨rfl, rfl, rfl, rfl, rfl⟩ hrec
  unfold impl_lowWinners.s4
  by_cases h : i < ws.length
  · have hb := all_inB hv ws[i] (List.getElem_mem h)
    have e := hrec vals _ ws _ _ h ⟨rfl, rfl, rfl, rfl, rfl⟩
    have hlen := bestRun_len false vals ws i
    obtain ⟨j, hj⟩ := Int.eq_ofNat_of_zero_le hb.1
    have hj' : ws[i] = (j : Int) := hj
    have hjl : j < vals.length := by omega
    have hr : decide (((bestRun false vals ws i).2.length + 1) * 8 ≤ AM.maxBytes) = true := room (by omega) (by omega)
    have hr1 : decide (1 * 8 ≤ AM.maxBytes) = true := room (by omega) (by omega)
    rw [bestRun_succ h, hj'] at e
    obtain ⟨v, hv'⟩ : ∃ v, vals.getD j 0 = v := ⟨_, rfl⟩
    simp only [nn, ltD h, Bool.and_self, Int.toNat_natCast, getD_lt h, hj', ltD hjl, wrap_succ (show i < 2^62 by omega), cond_true, List.length_singleton, hr, hr1, beq_self_eq_true, hv']
    generalize bestRun false vals ws i = s at *
    have step : ∀ q, (if v < 0 then s else if s.1 < 0 ∨ v < s.1 then (v, [(j : Int)]) else if v = s.1 then (s.1, s.2 ++ [(j : Int)]) else s) = q → rec (vals, q.1, ws, (ws.length : Int), (i : Int) + 1, q.2) = some ((bestL false vals ws, ()), ()) := by
      intro q hq
      have : bestStep false vals s (j : Int) = q := by
        rw [← hq]
        unfold bestStep
        simp only [Int.toNat_natCast, hv', true_and, Bool.false_eq_true, false_and, false_or]
      rw [this] at e
      exact e
    clear e
    by_cases c1 : v < 0
    · have e := step s (by rw [if_pos c1])
      simp only [decide_eq_true c1, cond_true, e]
    · simp only [decide_eq_false c1, cond_false]
      by_cases c2 : s.1 < 0
      · have e := step (v, [(j : Int)]) (by rw [if_neg c1, if_pos (.inl c2)])
        simp only [decide_eq_true c2, cond_true, e]
      · simp only [decide_eq_false c2, cond_false]
        by_cases c3 : v < s.1
        · have e := step (v, [(j : Int)]) (by rw [if_neg c1, if_pos (.inr c3)])
          simp only [decide_eq_true c3, cond_true, e]
        · simp only [decide_eq_false c3, cond_false]
          by_cases c4 : v = s.1
          · have e := step (s.1, s.2 ++ [(j : Int)]) (by rw [if_neg c1, if_neg (by omega), if_pos c4])
            simp only [c4, beq_self_eq_true, cond_true, e]
          · have e := step s (by rw [if_neg c1, if_neg (by omega), if_neg c4])
            have hb4 : (v == s.1) = false := by simp [c4]
            simp only [hb4, cond_false, e]
  · have : i = ws.length := by omega
    subst this
    simp [bestL]

/-- Values that are at least -1. -/
def valsB (l : List Int) : Bool := l.all fun n => decide (-1 ≤ n)

theorem l13Values_eq {k : Nat} (K : 2^42 ≤ k) {l : List Int} (hl : l.length ≤ 2^40) (n : Int) : spec_l13Values.f k l n = some ((valsB l && ((l.length : Int) == n), ()), ()) := by
  unfold spec_l13Values.f valsB
  refine (spec_l13Values.l2_for l.length (fun _ x0 x1 => l = x0 ∧ n = x1) (fun i _ _ => some (((l.drop i).all (fun n => decide (-1 ≤ n)) && ((l.length : Int) == n), ()), ())) ?_ k 0 l n (Nat.zero_le _) ⟨rfl, rfl⟩ (by omega)).trans (by simp)
  rintro i _ _ rec hi ⟨rfl, rfl⟩ hrec
  unfold spec_l13Values.s2
  by_cases h : i < l.length
  · simp only [nn, ltD h, Bool.and_self, Int.toNat_natCast, getD_lt h, wrap_succ (show i < 2^62 by omega), cond_true, all_drop h, hrec _ _ h ⟨rfl, rfl⟩]
    by_cases c : l[i] < -1
    · simp only [decide_eq_true c, cond_true, decide_eq_false (show ¬ -1 ≤ l[i] by omega), Bool.false_and]
    · simp only [decide_eq_false c, cond_false, decide_eq_true (show -1 ≤ l[i] by omega), Bool.true_and]
  · have : i = l.length := by omega
    subst this
    simp

theorem areValues_eq {k : Nat} (K : 2^42 ≤ k) {l : List Int} (hl : l.length ≤ 2^40) : impl_areValues.f k l = some ((valsB l, ()), ()) := by
  unfold impl_areValues.f valsB
  refine (impl_areValues.i1001_i1002_l2_for l.length (fun _ x0 x7 => l = x0 ∧ (l.length : Int) = x7) (fun i _ _ => some (((l.drop i).all (fun n => decide (-1 ≤ n)), ()), ())) ?_ k 0 _ _ (Nat.zero_le _) ⟨rfl, rfl⟩ (by omega)).trans (by simp)
  rintro i _ _ rec hi ⟨rfl, rfl⟩ hrec
  unfold impl_areValues.i1001_i1002_s2 impl_areValues_1.f
  by_cases h : i < l.length
  · simp only [nn, ltD h, Bool.and_self, Int.toNat_natCast, getD_lt h, wrap_succ (show i < 2^62 by omega), cond_true, all_drop h, hrec _ _ h ⟨rfl, rfl⟩, Option.bind_some]
    by_cases c : l[i] < -1
    · have : decide ((i : Int) ≥ 0) = true := by simp
      simp only [decide_eq_true c, cond_true, decide_eq_false (show ¬ -1 ≤ l[i] by omega), Bool.false_and, this, Bool.not_true]
    · simp only [decide_eq_false c, cond_false, decide_eq_true (show -1 ≤ l[i] by omega), Bool.true_and]
  · have : i = l.length := by omega
    subst this
    simp

/-- The code of winners and values. -/
def codeR (w v : List Int) : Int := if inB 2 6 v.length = true then (if wins w v.length = true then (if valsB v = true then 0 else 2) else 1) else 2

theorem sCode_eq {k : Nat} (K : 2^42 ≤ k) {w v : List Int} (hw : w.length ≤ 2^40) (hv : v.length ≤ 2^40) : spec_l13Code.f k w v = some ((codeR w v, ()), ()) := by
  unfold spec_l13Code.f spec_l13Seats.f codeR
  simp only [l01In_eq, Option.bind_some, l13Winners_eq K hw (show (0 : Int) ≤ v.length by omega) (show (v.length : Int) ≤ 2^40 by omega), l13Values_eq K hv, beq_self_eq_true, Bool.and_true]
  cases inB 2 6 (v.length : Int) <;> cases wins w (v.length : Int) <;> cases valsB v <;> rfl

theorem iCode_eq {k : Nat} (K : 2^42 ≤ k) {w v : List Int} (hw : w.length ≤ 2^40) (hv : v.length ≤ 2^40) : impl_checkValues.f k w v = some ((codeR w v, ()), ()) := by
  unfold impl_checkValues.f codeR
  simp only [within_eq, Option.bind_some, areWinners_eq K hw (show (0 : Int) ≤ v.length by omega) (show (v.length : Int) ≤ 2^40 by omega), areValues_eq K hv]
  cases inB 2 6 (v.length : Int) <;> cases wins w (v.length : Int) <;> cases valsB v <;> rfl

theorem codeR_zero {w v : List Int} (h : codeR w v = 0) : inB 2 6 v.length = true ∧ wins w v.length = true ∧ valsB v = true := by
  unfold codeR at h
  split at h
  · split at h
    · split at h
      · exact ⟨by assumption, by assumption, by assumption⟩
      · omega
    · omega
  · omega

theorem wins_all {w : List Int} {n : Int} (h : wins w n = true) : w.all (inB 0 (n - 1)) = true := by
  simp only [wins, Bool.and_eq_true] at h; exact h.2.1

/-- What HighWinners and LowWinners return. -/
def WinR (hi : Bool) (w v : List Int) : List Int × Int := if codeR w v = 0 then (if (bestL hi v w).length = 0 then ([], 4) else (bestL hi v w, 0)) else ([], codeR w v)

theorem sSome_eq {k : Nat} (K : 2^42 ≤ k) {w v : List Int} (hw : w.length ≤ 2^40) (hv : v.length ≤ 2^40) (hi : Bool) : spec_l13Some.f k w v hi = some (((WinR hi w v).1, (WinR hi w v).2, ()), ()) := by
  unfold spec_l13Some.f WinR
  simp only [sCode_eq K hw hv, Option.bind_some]
  by_cases hc : codeR w v = 0
  · simp only [hc, bne_self_eq_false, cond_false, if_true, sBest_eq K hw (wins_all (codeR_zero hc).2.1), Option.bind_some]
    by_cases hz : (bestL hi v w).length = 0
    · simp [hz]
    · have : (((bestL hi v w).length : Int) == 0) = false := by simp only [beq_eq_false_iff_ne]; omega
      simp only [this, cond_false, if_neg hz]
  · have : (codeR w v != 0) = true := by simp [hc]
    simp only [this, cond_true, if_neg hc]

theorem iHighWinners_eq {k : Nat} (K : 2^42 ≤ k) {w v : List Int} (hw : w.length ≤ 2^40) (hv : v.length ≤ 2^40) : impl_HighWinners.f k w v = some (((WinR true w v).1, (WinR true w v).2, ()), ()) := by
  unfold impl_HighWinners.f WinR
  simp only [iCode_eq K hw hv, Option.bind_some]
  by_cases hc : codeR w v = 0
  · simp only [hc, bne_self_eq_false, cond_false, if_true, iHigh_eq K hw (wins_all (codeR_zero hc).2.1), Option.bind_some]
    by_cases hz : (bestL true v w).length = 0
    · simp [hz]
    · have : (((bestL true v w).length : Int) == 0) = false := by simp only [beq_eq_false_iff_ne]; omega
      simp only [this, cond_false, if_neg hz]
  · have : (codeR w v != 0) = true := by simp [hc]
    simp only [this, cond_true, if_neg hc]

theorem iLowWinners_eq {k : Nat} (K : 2^42 ≤ k) {w v : List Int} (hw : w.length ≤ 2^40) (hv : v.length ≤ 2^40) : impl_LowWinners.f k w v = some (((WinR false w v).1, (WinR false w v).2, ()), ()) := by
  unfold impl_LowWinners.f WinR
  simp only [iCode_eq K hw hv, Option.bind_some]
  by_cases hc : codeR w v = 0
  · simp only [hc, bne_self_eq_false, cond_false, if_true, iLow_eq K hw (wins_all (codeR_zero hc).2.1), Option.bind_some]
    by_cases hz : (bestL false v w).length = 0
    · simp [hz]
    · have : (((bestL false v w).length : Int) == 0) = false := by simp only [beq_eq_false_iff_ne]; omega
      simp only [this, cond_false, if_neg hz]
  · have : (codeR w v != 0) = true := by simp [hc]
    simp only [this, cond_true, if_neg hc]

theorem sHighWinners_eq {k : Nat} (K : 2^42 ≤ k) {w v : List Int} (hw : w.length ≤ 2^40) (hv : v.length ≤ 2^40) : spec_HighWinners.f k w v = some (((WinR true w v).1, (WinR true w v).2, ()), ()) := by
  unfold spec_HighWinners.f
  simp only [sSome_eq K hw hv, Option.bind_some]

theorem sLowWinners_eq {k : Nat} (K : 2^42 ≤ k) {w v : List Int} (hw : w.length ≤ 2^40) (hv : v.length ≤ 2^40) : spec_LowWinners.f k w v = some (((WinR false w v).1, (WinR false w v).2, ()), ()) := by
  unfold spec_LowWinners.f
  simp only [sSome_eq K hw hv, Option.bind_some]

theorem WinR_len (hi : Bool) (w v : List Int) (hw : w.length ≤ 2^40) : (WinR hi w v).1.length ≤ 2^40 := by
  unfold WinR
  split
  · split
    · simp
    · have := bestRun_len hi v w w.length
      show (bestRun hi v w w.length).2.length ≤ _
      omega
  · simp

theorem splitL_len (w : List Int) (S F : Nat) (a : Int) : (splitL w S F a).length = S := spRun_len w S F a S

theorem gt0 {n : Nat} (h : 0 < n) : decide ((n : Int) > 0) = true := by simp; omega

theorem not_gt0 {n : Nat} (h : ¬ 0 < n) : decide ((n : Int) > 0) = false := by simp; omega

theorem two0 : decide ((2 : Int) = 0) = false := by decide

theorem spRun_in (w : List Int) (S F : Nat) {a : Int} (h0 : 0 ≤ a) : ∀ i, ∀ x ∈ (spRun w S F a i).2, 0 ≤ x ∧ x ≤ a + 1
  | 0 => by
    intro x hx
    simp only [spRun, List.range_zero, List.foldl_nil] at hx
    have := List.eq_of_mem_replicate hx
    omega
  | i + 1 => by
    have ih := spRun_in w S F h0 i
    have hd := div_le (n := w.length) h0
    intro x hx
    rw [spRun_succ] at hx
    unfold spStep at hx
    split at hx
    · split at hx
      · rcases List.mem_or_eq_of_mem_set hx with h | h
        · exact ih x h
        · omega
      · rcases List.mem_or_eq_of_mem_set hx with h | h
        · exact ih x h
        · omega
    · exact ih x hx

theorem mem_getD {l : List Int} {x : Int} : x ∈ l ↔ ∃ p, p < l.length ∧ l.getD p 0 = x := by
  rw [List.mem_iff_getElem]
  constructor
  · rintro ⟨p, hp, rfl⟩; exact ⟨p, hp, getD_lt hp 0⟩
  · rintro ⟨p, hp, rfl⟩; exact ⟨p, hp, (getD_lt hp 0).symm⟩

theorem set_getD {l : List Int} {a : Nat} (h : a < l.length) (x : Int) (p : Nat) : (l.set a x).getD p 0 = if p = a then x else l.getD p 0 := by
  rw [List.getD_eq_getElem?_getD, List.getD_eq_getElem?_getD, List.getElem?_set]
  by_cases c : a = p
  · subst c; simp [h]
  · rw [if_neg c, if_neg (fun h => c h.symm)]

def W (p : List Int) (m : List Bool) (l : Int) (i : Nat) : List Int := ((List.range i).filter fun j => !m.getD j false && decide (p.getD j 0 ≥ l)).map fun (j : Nat) => (j : Int)

/-- A source of numbers. -/
def Src (z : List Int) (a b : Int) : Prop := (∀ i, i < z.length → 0 ≤ z.getD i 0 ∧ z.getD i 0 < 256) ∧ z.length ≤ 2^40 ∧ 0 ≤ a ∧ a ≤ z.length ∧ 0 ≤ b ∧ b < 2147483647

theorem tmod_in {x n : Int} (hx : 0 ≤ x) (hn : 0 < n) : 0 ≤ Int.tmod x n ∧ Int.tmod x n < n := ⟨Int.tmod_nonneg _ hx, Int.tmod_lt_of_pos _ hn⟩

theorem next_ok {k : Nat} {z : List Int} {a b : Int} (hs : Src z a b) {n : Int} (hn : n ≤ 2^31) : ∃ r c d, spec_l01Next.f k (z, (a, (b, ()))) n = some ((r, ()), ((z, (c, (d, ()))), ())) ∧ 0 ≤ r ∧ (r < n ∨ r = 0) ∧ Src z c d := by
  obtain ⟨h1, h2, h3, h4, h5, h6⟩ := hs
  unfold spec_l01Next.f
  by_cases c1 : n ≤ 1
  · simp only [decide_eq_true c1, cond_true]
    exact ⟨0, a, b, rfl, by omega, .inr rfl, h1, h2, h3, h4, h5, h6⟩
  have d1 : decide ((2147483647 : Int) = 0) = false := by decide
  have d2 : decide ((31 : Int) = 0) = false := by decide
  have d3 : decide (n = 0) = false := decide_eq_false (by omega)
  have w1 : IntKind.wrap .i64 (b * 48271) = b * 48271 := wrap_id (by omega) (by omega)
  have w2 : IntKind.wrap .i64 (b * 48271 + 29) = b * 48271 + 29 := wrap_id (by omega) (by omega)
  have hb := tmod_in (x := b * 48271 + 29) (n := 2147483647) (by omega) (by omega)
  generalize hb' : Int.tmod (b * 48271 + 29) 2147483647 = b' at *
  have hq : 0 ≤ b'.tdiv 31 ∧ b'.tdiv 31 ≤ b' := ⟨Int.tdiv_nonneg hb.1 (by omega), Int.tdiv_le_self _ hb.1⟩
  have w3 : IntKind.wrap .i64 (b'.tdiv 31) = b'.tdiv 31 := wrap_id (by omega) (by omega)
  simp only [decide_eq_false c1, cond_false, d1, d2, d3, two0, Bool.not_false, cond_true, w1, w2, hb', w3]
  by_cases c2 : a < (z.length : Int)
  · obtain ⟨i, rfl⟩ := Int.eq_ofNat_of_zero_le h3
    have hi : i < z.length := by omega
    have hz := h1 i hi
    have w4 : IntKind.wrap .i64 ((i : Int) + 1 - 1) = (i : Int) := by rw [wrap_id (by omega) (by omega)]; omega
    have w5 : IntKind.wrap .i64 (z.getD i 0) = z.getD i 0 := wrap_id (by omega) (by omega)
    have w6 : IntKind.wrap .i64 (b'.tdiv 31 + z.getD i 0) = b'.tdiv 31 + z.getD i 0 := wrap_id (by omega) (by omega)
    have t1 := tmod_in (x := z.getD i 0) (n := n) hz.1 (by omega)
    have t2 := tmod_in (x := b'.tdiv 31 + z.getD i 0) (n := n) (by omega) (by omega)
    have hsrc : Src z ((i : Int) + 1) b' := ⟨h1, h2, by omega, by omega, hb.1, hb.2⟩
    simp only [decide_eq_true c2, nn, Bool.and_self, cond_true, Int.toNat_natCast, wrap_succ (show i < 2^62 by omega), w4, w5, w6]
    cases decide (n ≤ 256) with
    | false => exact ⟨_, _, _, rfl, t2.1, .inl t2.2, hsrc⟩
    | true =>
      simp only [cond_true]
      cases (Int.tmod ((i : Int) + 1) 2 == 0) with
      | false => exact ⟨_, _, _, rfl, t2.1, .inl t2.2, hsrc⟩
      | true => exact ⟨_, _, _, rfl, t1.1, .inl t1.2, hsrc⟩
  · have t := tmod_in (x := b'.tdiv 31) (n := n) hq.1 (by omega)
    simp only [decide_eq_false c2, cond_false]
    exact ⟨_, _, _, rfl, t.1, .inl t.2, h1, h2, h3, h4, hb.1, hb.2⟩

theorem pick_ok {k : Nat} {z : List Int} {a b : Int} (hs : Src z a b) {l : List Int} (h0 : 0 < l.length) (hl : l.length ≤ 2^20) : ∃ r c d, spec_l01Pick.f k (z, (a, (b, ()))) l = some ((r, ()), ((z, (c, (d, ()))), ())) ∧ r ∈ l ∧ Src z c d := by
  unfold spec_l01Pick.f
  obtain ⟨r, c, d, e, h1, h2, h3⟩ := next_ok (k := k) hs (n := (l.length : Int)) (by omega)
  obtain ⟨i, rfl⟩ := Int.eq_ofNat_of_zero_le h1
  have hi : i < l.length := by omega
  simp only [e, Option.bind_some, nn, ltD hi, Bool.and_self, cond_true, Int.toNat_natCast]
  exact ⟨_, c, d, rfl, mem_getD.2 ⟨i, hi, rfl⟩, h3⟩

theorem loop_exk {V R W : Type} {L : Nat → V → (W → Option R) → Option R} {S : (V → Option R) → (W → Option R) → V → Option R} (hL : ∀ n v kx, L (n + 1) v kx = S (fun w => L n w kx) kx v) (Inv : V → Prop) (μ : V → Nat) (Q : W → Prop)
    (h : ∀ v, Inv v → (∃ w, (∀ rec kx, S rec kx v = kx w) ∧ Q w) ∨ ∃ v', Inv v' ∧ μ v' < μ v ∧ ∀ rec kx, S rec kx v = rec v') : ∀ n v, Inv v → μ v < n → ∃ w, (∀ kx, L n v kx = kx w) ∧ Q w := by
  intro n
  induction n with
  | zero => intro v _ h; omega
  | succ n ih =>
    intro v hv hn
    rcases h v hv with ⟨w, e, q⟩ | ⟨v', i', m', e⟩
    · exact ⟨w, fun kx => by rw [hL, e], q⟩
    · obtain ⟨w, e', q⟩ := ih v' i' (by omega)
      exact ⟨w, fun kx => by rw [hL, e, e'], q⟩

/-- The bytes of a seed. -/
theorem seed_bytes {a0 : List Int} (h : ∀ x ∈ a0, (decide (IntKind.min .u8 ≤ x) && decide (x ≤ IntKind.max .u8)) = true) : ∀ i, i < a0.length → 0 ≤ a0.getD i 0 ∧ a0.getD i 0 < 256 := by
  intro i hi
  have := h (a0.getD i 0) (mem_getD.2 ⟨i, hi, rfl⟩)
  have e1 : IntKind.min .u8 = 0 := rfl
  have e2 : IntKind.max .u8 = 255 := rfl
  rw [e1, e2] at this
  simp only [Bool.and_eq_true, decide_eq_true_eq] at this
  omega

theorem likeInts_self {k : Nat} (K : 2^42 ≤ k) {l : List Int} (hl : l.length ≤ 2^40) : laws_likeInts.f k l l = some ((true, ()), ()) := by
  unfold laws_likeInts.f
  have c : ((l.length : Int) != (l.length : Int)) = false := by simp
  simp only [c, cond_false]
  refine (laws_likeInts.l4_for l.length (fun i a b => l = a ∧ l = b) (fun _ _ _ => some ((true, ()), ())) ?_ k 0 _ _ (Nat.zero_le _) ⟨rfl, rfl⟩ (by omega))
  rintro i _ b rec hi ⟨rfl, hb⟩ hrec
  subst hb
  unfold laws_likeInts.s4
  by_cases h : i < l.length
  · have e := hrec _ _ h ⟨rfl, rfl⟩
    have c2 : (l.getD i 0 != l.getD i 0) = false := by simp
    simp only [ltD h, nn, Bool.and_self, cond_true, Int.toNat_natCast, c2, cond_false, wrap_succ (show i < 2^62 by omega)]
    exact e
  · have : i = l.length := by omega
    subst this
    have c0 : decide ((l.length : Int) < (l.length : Int)) = false := by simp
    simp only [c0, cond_false]

theorem sum_eq {k : Nat} (K : 2^42 ≤ k) {l : List Int} (hl : l.length ≤ 2^20) (hb : ∀ j, j < l.length → -1073741824 ≤ l.getD j 0 ∧ l.getD j 0 ≤ 1073741824) : laws_sum.f k l = some ((l.sum, ()), ()) := by
  unfold laws_sum.f
  have hbd : ∀ i, i ≤ l.length → -(1073741824 * (i : Int)) ≤ (l.take i).sum ∧ (l.take i).sum ≤ 1073741824 * (i : Int) := by
    intro i
    induction i with
    | zero => intro _; simp
    | succ i ih =>
      intro h
      have := ih (by omega)
      have := hb i (by omega)
      rw [getD_lt (by omega)] at this
      rw [sum_take_succ (by omega)]
      omega
  refine (laws_sum.l3_for l.length (fun i a s => l = a ∧ (l.take i).sum = s) (fun _ _ _ => some ((l.sum, ()), ())) ?_ k 0 _ _ (Nat.zero_le _) ⟨rfl, by simp⟩ (by omega))
  rintro i _ _ rec hi ⟨rfl, rfl⟩ hrec
  unfold laws_sum.s3
  by_cases h : i < l.length
  · have e := hrec _ _ h ⟨rfl, rfl⟩
    have h1 := hbd i (by omega)
    have h2 := hb i h
    rw [getD_lt h] at h2
    have hw : IntKind.wrap .i64 ((l.take i).sum + l[i]) = (l.take (i + 1)).sum := by rw [sum_take_succ h, wrap_id (by omega) (by omega)]
    simp only [ltD h, nn, Bool.and_self, cond_true, Int.toNat_natCast, getD_lt h, hw, wrap_succ (show i < 2^62 by omega)]
    exact e
  · have : i = l.length := by omega
    subst this
    have c0 : decide ((l.length : Int) < (l.length : Int)) = false := by simp
    simp only [c0, cond_false, List.take_length]

theorem sum_set : ∀ (l : List Int) (j : Nat) (x : Int), j < l.length → (l.set j x).sum = l.sum - l.getD j 0 + x
  | [], j, x, h => by simp at h
  | y :: l, 0, x, _ => by simp; omega
  | y :: l, j + 1, x, h => by
    have := sum_set l j x (by simpa using h)
    simp only [List.set_cons_succ, List.sum_cons, List.getD_cons_succ, this]
    omega

theorem sum_zero : ∀ (l : List Int), (∀ j, j < l.length → l.getD j 0 = 0) → l.sum = 0
  | [], _ => rfl
  | x :: l, h => by
    have h0 := h 0 (by simp)
    have := sum_zero l (fun j hj => by simpa using h (j + 1) (by simpa using hj))
    simp only [List.getD_cons_zero] at h0
    simp [h0, this]

theorem sub_len : ∀ (L l : List Int), L.Nodup → (∀ x ∈ L, x ∈ l) → L.length ≤ l.length
  | [], l, _, _ => by simp
  | x :: L, l, hn, h => by
    rw [List.nodup_cons] at hn
    have hx := h x (by simp)
    have := sub_len L (l.erase x) hn.2 (fun y hy => (List.mem_erase_of_ne (fun (e : y = x) => hn.1 (e ▸ hy))).2 (h y (by simp [hy])))
    rw [List.length_erase_of_mem hx] at this
    have := List.length_pos_of_mem hx
    simp only [List.length_cons]
    omega

theorem seat_mod {S F i : Nat} (hF : F < S) (hi : i < S) : (F + i) % S = if F + i < S then F + i else F + i - S := by
  split
  · exact Nat.mod_eq_of_lt (by assumption)
  · rw [Nat.mod_eq_sub_mod (by omega)]
    exact Nat.mod_eq_of_lt (by omega)

/-- How many winners the first turns meet. -/
def met (w : List Int) (S F i : Nat) : Nat := ((List.range i).filter fun j => decide ((((F + j) % S : Nat) : Int) ∈ w)).length

theorem met_succ (w : List Int) (S F i : Nat) : met w S F (i + 1) = met w S F i + (if (((F + i) % S : Nat) : Int) ∈ w then 1 else 0) := by
  unfold met
  rw [List.range_succ, List.filter_append, List.length_append]
  by_cases c : (((F + i) % S : Nat) : Int) ∈ w
  · rw [if_pos c]; simp only [List.filter_cons, decide_eq_true c, if_true, List.filter_nil, List.length_cons, List.length_nil]
  · rw [if_neg c]; simp only [List.filter_cons, decide_eq_false c, Bool.false_eq_true, if_false, List.filter_nil, List.length_nil]

theorem wins_strict {w : List Int} {n : Int} (h : wins w n = true) : w.Pairwise (· < ·) := by
  simp only [wins, Bool.and_eq_true] at h
  have hr := h.2.2
  have key : ∀ (l : List Int), risesB l = true → l.Pairwise (· < ·) := by
    intro l
    induction l with
    | nil => intro _; exact List.Pairwise.nil
    | cons x l ih =>
      intro hr
      cases l with
      | nil => simp
      | cons y l =>
        rw [risesB, Bool.and_eq_true, decide_eq_true_eq] at hr
        have := ih hr.2
        rw [List.pairwise_cons]
        refine ⟨fun z hz => ?_, this⟩
        rw [List.pairwise_cons] at this
        rcases List.mem_cons.1 hz with e | e
        · rw [e]; exact hr.1
        · have := this.1 z e; omega
  exact key w hr

theorem met_all {w : List Int} {S F : Nat} (hw : wins w S = true) (hF : F < S) : met w S F S = w.length := by
  have hn : w.Nodup := (wins_strict hw).imp (fun h e => by omega)
  have hin := all_inB (wins_all hw)
  have e : met w S F S = (((List.range S).filter fun j => decide ((((F + j) % S : Nat) : Int) ∈ w)).map fun j => (((F + j) % S : Nat) : Int)).length := by
    rw [List.length_map]; rfl
  rw [e]
  apply Nat.le_antisymm
  · apply sub_len
    · rw [List.Nodup, List.pairwise_map]
      have hp : ((List.range S).filter fun j => decide ((((F + j) % S : Nat) : Int) ∈ w)).Pairwise (fun a b => a < b ∧ b < S) := by
        apply List.Pairwise.filter
        have h1 : (List.range S).Pairwise (· < ·) := List.pairwise_lt_range
        rw [List.pairwise_iff_getElem] at h1 ⊢
        intro i j hi hj hij
        refine ⟨h1 i j hi hj hij, ?_⟩
        rw [List.getElem_range]
        simpa using hj
      refine hp.imp ?_
      rintro a b ⟨h1, h2⟩ he
      have he : (F + a) % S = (F + b) % S := by omega
      rw [seat_mod hF (by omega), seat_mod hF h2] at he
      split at he <;> split at he <;> omega
    · intro x hx
      obtain ⟨j, hj, rfl⟩ := List.mem_map.1 hx
      simpa using (List.mem_filter.1 hj).2
  · apply sub_len _ _ hn
    intro x hx
    have hx' := hin x hx
    obtain ⟨s, rfl⟩ := Int.eq_ofNat_of_zero_le hx'.1
    have hs : s < S := by omega
    have hm : ∃ i, i < S ∧ (F + i) % S = s := by
      by_cases c : F ≤ s
      · exact ⟨s - F, by omega, by rw [seat_mod hF (by omega), if_pos (by omega)]; omega⟩
      · exact ⟨s + S - F, by omega, by rw [seat_mod hF (by omega), if_neg (by omega)]; omega⟩
    obtain ⟨i, hi, he⟩ := hm
    exact List.mem_map.2 ⟨i, List.mem_filter.2 ⟨List.mem_range.2 hi, by rw [he]; simpa using hx⟩, by rw [he]⟩

theorem sp_rest {w : List Int} {S F : Nat} {a : Int} (ha : 0 ≤ a) : ∀ i, (spRun w S F a i).1 = max 0 (a.tmod w.length - (met w S F i : Int))
  | 0 => by
    simp only [spRun, List.range_zero, List.foldl_nil, met, List.filter_nil, List.length_nil]
    have : 0 ≤ a.tmod w.length := Int.tmod_nonneg _ ha
    omega
  | i + 1 => by
    have ih := sp_rest (w := w) (S := S) (F := F) ha i
    rw [spRun_succ, met_succ]
    unfold spStep
    by_cases c : (((F + i) % S : Nat) : Int) ∈ w
    · rw [if_pos c, if_pos c]
      split
      · simp only; omega
      · simp only; omega
    · rw [if_neg c, if_neg c]
      rw [ih]; simp

/-- What the seats have after some turns. -/
theorem sp_seat {w : List Int} {S F : Nat} {a : Int} (hF : F < S) : ∀ i, i ≤ S → ∀ s, s < S → ((∃ j, j < i ∧ (F + j) % S = s) ∧ (s : Int) ∈ w → (spRun w S F a i).2.getD s 0 = a.tdiv w.length ∨ (spRun w S F a i).2.getD s 0 = a.tdiv w.length + 1) ∧ (¬ ((∃ j, j < i ∧ (F + j) % S = s) ∧ (s : Int) ∈ w) → (spRun w S F a i).2.getD s 0 = 0)
  | 0, _, s, hs => by
    refine ⟨fun h => by obtain ⟨⟨j, hj, _⟩, _⟩ := h; omega, fun _ => ?_⟩
    simp only [spRun, List.range_zero, List.foldl_nil]
    rw [getD_lt (by simpa using hs)]
    simp
  | i + 1, hi, s, hs => by
    obtain ⟨h1, h2⟩ := sp_seat (w := w) (a := a) hF i (by omega) s hs
    have hlen := spRun_len w S F a i
    have hm := seat_mod hF (show i < S by omega)
    have hlt : (F + i) % S < S := Nat.mod_lt _ (by omega)
    rw [spRun_succ]
    unfold spStep
    by_cases c : (((F + i) % S : Nat) : Int) ∈ w
    · rw [if_pos c]
      have goal : ∀ v, (v = a.tdiv w.length ∨ v = a.tdiv w.length + 1) → (((∃ j, j < i + 1 ∧ (F + j) % S = s) ∧ (s : Int) ∈ w → ((spRun w S F a i).2.set ((F + i) % S) v).getD s 0 = a.tdiv w.length ∨ ((spRun w S F a i).2.set ((F + i) % S) v).getD s 0 = a.tdiv w.length + 1) ∧ (¬ ((∃ j, j < i + 1 ∧ (F + j) % S = s) ∧ (s : Int) ∈ w) → ((spRun w S F a i).2.set ((F + i) % S) v).getD s 0 = 0)) := by
        intro v hv
        rw [set_getD (by omega)]
        by_cases d : s = (F + i) % S
        · rw [if_pos d]
          refine ⟨fun _ => hv, fun hn => absurd ⟨⟨i, by omega, d.symm⟩, d ▸ c⟩ hn⟩
        · rw [if_neg d]
          refine ⟨fun ⟨⟨j, hj, e⟩, hsw⟩ => h1 ⟨⟨j, by
            by_cases q : j = i
            · subst q; exact absurd e.symm d
            · omega, e⟩, hsw⟩, fun hn => h2 (fun ⟨⟨j, hj, e⟩, hsw⟩ => hn ⟨⟨j, by omega, e⟩, hsw⟩)⟩
      split
      · exact goal _ (.inr rfl)
      · exact goal _ (.inl rfl)
    · rw [if_neg c]
      refine ⟨fun ⟨⟨j, hj, e⟩, hsw⟩ => h1 ⟨⟨j, by
        by_cases q : j = i
        · subst q; rw [← e] at hsw; exact absurd hsw c
        · omega, e⟩, hsw⟩, fun hn => h2 (fun ⟨⟨j, hj, e⟩, hsw⟩ => hn ⟨⟨j, by omega, e⟩, hsw⟩)⟩

theorem sp_sum {w : List Int} {S F : Nat} {a : Int} (hF : F < S) : ∀ i, i ≤ S → (spRun w S F a i).2.sum + (spRun w S F a i).1 = a.tmod w.length + a.tdiv w.length * (met w S F i : Int)
  | 0, _ => by
    simp only [spRun, List.range_zero, List.foldl_nil, met, List.filter_nil, List.length_nil]
    have : (List.replicate S (0 : Int)).sum = 0 := sum_zero _ (fun j hj => by rw [getD_lt hj]; simp)
    rw [this]; simp
  | i + 1, hi => by
    have ih := sp_sum (w := w) (a := a) hF i (by omega)
    have hlen := spRun_len w S F a i
    have hlt : (F + i) % S < S := Nat.mod_lt _ (by omega)
    have h0 : (spRun w S F a i).2.getD ((F + i) % S) 0 = 0 := (sp_seat (w := w) (a := a) hF i (by omega) _ hlt).2 (by
      rintro ⟨⟨j, hj, e⟩, _⟩
      rw [seat_mod hF (by omega), seat_mod hF (by omega)] at e
      split at e <;> split at e <;> omega)
    rw [spRun_succ, met_succ]
    unfold spStep
    by_cases c : (((F + i) % S : Nat) : Int) ∈ w
    · rw [if_pos c, if_pos c]
      have e : a.tdiv w.length * ((met w S F i + 1 : Nat) : Int) = a.tdiv w.length * (met w S F i : Int) + a.tdiv w.length := by
        rw [Int.natCast_succ, Int.mul_add, Int.mul_one]
      rw [e]
      split
      · simp only; rw [sum_set _ _ _ (by omega), h0]; omega
      · simp only; rw [sum_set _ _ _ (by omega), h0]; omega
    · rw [if_neg c, if_neg c, Nat.add_zero]; exact ih

/-- What is split adds up. -/
theorem splitL_sum {w : List Int} {S F : Nat} {a : Int} (hw : wins w S = true) (hF : F < S) (ha : 0 ≤ a) : (splitL w S F a).sum = a := by
  have h1 := sp_sum (w := w) (a := a) hF S (Nat.le_refl _)
  have h2 := sp_rest (w := w) (S := S) (F := F) ha S
  rw [met_all hw hF] at h1 h2
  have hpos := wins_pos hw
  have h3 : a.tmod w.length < w.length := Int.tmod_lt_of_pos _ (by omega)
  have h4 := Int.tmod_add_mul_tdiv a w.length
  have h5 : (w.length : Int) * a.tdiv w.length = a.tdiv w.length * (w.length : Int) := Int.mul_comm _ _
  unfold splitL
  omega

theorem splitL_seat {w : List Int} {S F : Nat} {a : Int} (hw : wins w S = true) (hF : F < S) {s : Nat} (hs : s < S) : ((s : Int) ∈ w → (splitL w S F a).getD s 0 = a.tdiv w.length ∨ (splitL w S F a).getD s 0 = a.tdiv w.length + 1) ∧ ((s : Int) ∉ w → (splitL w S F a).getD s 0 = 0) := by
  obtain ⟨h1, h2⟩ := sp_seat (w := w) (a := a) hF S (Nat.le_refl _) s hs
  have hm : ∃ i, i < S ∧ (F + i) % S = s := by
    by_cases c : F ≤ s
    · exact ⟨s - F, by omega, by rw [seat_mod hF (by omega), if_pos (by omega)]; omega⟩
    · exact ⟨s + S - F, by omega, by rw [seat_mod hF (by omega), if_neg (by omega)]; omega⟩
  exact ⟨fun h => h1 ⟨hm, h⟩, fun h => h2 (fun hh => h hh.2)⟩

theorem l13DrawSeats_ok {k : Nat} {z : List Int} {a b : Int} (hs : Src z a b) : ∃ (S : Nat) (c d : Int), spec_l13DrawSeats.f k (z, (a, (b, ()))) = some (((S : Int), ()), ((z, (c, (d, ()))), ())) ∧ S ≤ 10 ∧ Src z c d := by
  unfold spec_l13DrawSeats.f
  obtain ⟨r, c, d, e, _, _, s⟩ := next_ok (k := k) hs (n := 16) (by omega)
  simp only [e, Option.bind_some]
  cases (r == 0) with
  | true =>
    obtain ⟨r2, c2, d2, e2, h2, s2⟩ := pick_ok (k := k) s (l := [1, 7, 0]) (by simp) (by simp)
    simp only [cond_true, e2, Option.bind_some]
    have : r2 = 1 ∨ r2 = 7 ∨ r2 = 0 := by simpa using h2
    rcases this with rfl | rfl | rfl
    · exact ⟨1, _, _, rfl, by omega, s2⟩
    · exact ⟨7, _, _, rfl, by omega, s2⟩
    · exact ⟨0, _, _, rfl, by omega, s2⟩
  | false =>
    obtain ⟨r2, c2, d2, e2, h2, h2', s2⟩ := next_ok (k := k) s (n := 5) (by omega)
    have w : IntKind.wrap .i64 (2 + r2) = 2 + r2 := wrap_id (by omega) (by omega)
    obtain ⟨S, hS⟩ := Int.eq_ofNat_of_zero_le (show 0 ≤ 2 + r2 by omega)
    have hS' : 2 + r2 = (S : Int) := hS
    rw [hS'] at w
    simp only [cond_false, e2, Option.bind_some, hS', w]
    exact ⟨S, _, _, rfl, by omega, s2⟩

theorem drawW_ok {R : Type} {k : Nat} (K : 2^42 ≤ k) {z : List Int} {a b : Int} (hs : Src z a b) {S : Nat} (hS : S ≤ 10) : ∃ w, (∀ kx, spec_l13DrawWinners.l3 (R := R) k k ((S : Int), (0 : Int), z, a, b, ([] : List Int)) kx = kx w) ∧ ∃ c d y, w = ((S : Int), z, c, d, y) ∧ y.length ≤ S ∧ Src z c d := by
  refine loop_exk (L := fun n v kx => spec_l13DrawWinners.l3 (R := R) k n v kx) (S := fun rec kx v => spec_l13DrawWinners.s3 k rec kx v) (fun _ _ _ => rfl) (fun v => ∃ (i : Nat) (a b : Int) (y : List Int), i ≤ S ∧ v = ((S : Int), (i : Int), z, a, b, y) ∧ y.length ≤ i ∧ Src z a b) (fun v => S - v.2.1.toNat) (fun w => ∃ c d y, w = ((S : Int), z, c, d, y) ∧ y.length ≤ S ∧ Src z c d) ?_ k _ ⟨0, a, b, [], Nat.zero_le _, rfl, by simp, hs⟩ (by simp only [Int.toNat_zero]; omega)
  rintro _ ⟨i, a, b, y, hi, rfl, h1, hs⟩
  unfold spec_l13DrawWinners.s3
  by_cases h : i < S
  · right
    obtain ⟨r, c, d, e1, _, _, s1⟩ := next_ok (k := k) hs (n := 2) (by omega)
    have m1 : decide ((y.length + [(i : Int)].length) * 8 ≤ AM.maxBytes) = true := room (by simp; omega) (by omega)
    cases hr : (r == 0) with
    | true =>
      refine ⟨((S : Int), ((i : Int) + 1), z, c, d, y ++ [(i : Int)]), ⟨i + 1, c, d, _, h, rfl, by simp; omega, s1⟩, by simp only [Int.toNat_natCast]; omega, fun rec kx => ?_⟩
      simp only [ltD h, cond_true, e1, m1, hr, Option.bind_some, wrap_succ (show i < 2^62 by omega)]
    | false =>
      refine ⟨((S : Int), ((i : Int) + 1), z, c, d, y), ⟨i + 1, c, d, _, h, rfl, by omega, s1⟩, by simp only [Int.toNat_natCast]; omega, fun rec kx => ?_⟩
      simp only [ltD h, cond_true, e1, m1, hr, cond_false, Option.bind_some, wrap_succ (show i < 2^62 by omega)]
  · left
    have c0 : decide ((i : Int) < (S : Int)) = false := by simp; omega
    exact ⟨((S : Int), z, a, b, y), fun rec kx => by simp only [c0, cond_false], a, b, y, rfl, by omega, hs⟩

theorem drawV_ok {R : Type} {k : Nat} (K : 2^42 ≤ k) {z : List Int} {a b : Int} (hs : Src z a b) {S : Nat} (hS : S ≤ 10) : ∃ w, (∀ kx, spec_l13DrawValues.l3 (R := R) k k ((S : Int), (0 : Int), z, a, b, ([] : List Int)) kx = kx w) ∧ ∃ c d y, w = (z, c, d, y) ∧ y.length ≤ S ∧ Src z c d := by
  refine loop_exk (L := fun n v kx => spec_l13DrawValues.l3 (R := R) k n v kx) (S := fun rec kx v => spec_l13DrawValues.s3 k rec kx v) (fun _ _ _ => rfl) (fun v => ∃ (i : Nat) (a b : Int) (y : List Int), i ≤ S ∧ v = ((S : Int), (i : Int), z, a, b, y) ∧ y.length ≤ i ∧ Src z a b) (fun v => S - v.2.1.toNat) (fun w => ∃ c d y, w = (z, c, d, y) ∧ y.length ≤ S ∧ Src z c d) ?_ k _ ⟨0, a, b, [], Nat.zero_le _, rfl, by simp, hs⟩ (by simp only [Int.toNat_zero]; omega)
  rintro _ ⟨i, a, b, y, hi, rfl, h1, hs⟩
  unfold spec_l13DrawValues.s3
  by_cases h : i < S
  · right
    obtain ⟨r, c, d, e1, _, _, s1⟩ := next_ok (k := k) hs (n := 4) (by omega)
    have m1 : decide ((y.length + [IntKind.wrap .i64 (r - 1)].length) * 8 ≤ AM.maxBytes) = true := room (by simp; omega) (by omega)
    refine ⟨((S : Int), ((i : Int) + 1), z, c, d, y ++ [IntKind.wrap .i64 (r - 1)]), ⟨i + 1, c, d, _, h, rfl, by simp; omega, s1⟩, by simp only [Int.toNat_natCast]; omega, fun rec kx => ?_⟩
    simp only [ltD h, cond_true, e1, m1, Option.bind_some, wrap_succ (show i < 2^62 by omega)]
  · left
    have c0 : decide ((i : Int) < (S : Int)) = false := by simp; omega
    exact ⟨(z, a, b, y), fun rec kx => by simp only [c0, cond_false], a, b, y, rfl, by omega, hs⟩

theorem l13DrawWinners_ok {k : Nat} (K : 2^42 ≤ k) {z : List Int} {a b : Int} (hs : Src z a b) {S : Nat} (hS : S ≤ 10) : ∃ (y : List Int) (c d : Int), spec_l13DrawWinners.f k (z, (a, (b, ()))) (S : Int) = some ((y, ()), ((z, (c, (d, ()))), ())) ∧ y.length ≤ 20 ∧ Src z c d := by
  unfold spec_l13DrawWinners.f
  obtain ⟨w, e, c, d, y, rfl, hy, s⟩ := drawW_ok (R := (List Int × Unit) × (List Int × Int × Int × Unit) × Unit) K hs hS
  simp only [e]
  cases ((y.length : Int) == 0) with
  | true =>
    obtain ⟨r1, c1, d1, e1, _, _, s1⟩ := next_ok (k := k) s (n := 8) (by omega)
    simp only [cond_true, e1, Option.bind_some]
    cases decide (r1 > 0) with
    | true =>
      have m0 : decide ((y.length + ([(0 : Int)] : List Int).length) * 8 ≤ AM.maxBytes) = true := room (by simp; omega) (by omega)
      simp only [cond_true, m0]
      obtain ⟨r2, c2, d2, e2, _, _, s2⟩ := next_ok (k := k) s1 (n := 20) (by omega)
      simp only [e2, Option.bind_some]
      cases (r2 == 0) with
      | true =>
        obtain ⟨r3, c3, d3, e3, _, s3⟩ := pick_ok (k := k) s2 (l := [0, (S : Int)]) (by simp) (by simp)
        have m3 : decide (((y ++ ([(0 : Int)] : List Int)).length + [r3].length) * 8 ≤ AM.maxBytes) = true := room (by simp; omega) (by omega)
        simp only [cond_true, e3, Option.bind_some, m3]
        exact ⟨_, _, _, rfl, by first | omega | (simp; omega), s3⟩
      | false =>
        simp only [cond_false]
        exact ⟨_, _, _, rfl, by first | omega | (simp; omega), s2⟩
    | false =>
      simp only [cond_false]
      obtain ⟨r2, c2, d2, e2, _, _, s2⟩ := next_ok (k := k) s1 (n := 20) (by omega)
      simp only [e2, Option.bind_some]
      cases (r2 == 0) with
      | true =>
        obtain ⟨r3, c3, d3, e3, _, s3⟩ := pick_ok (k := k) s2 (l := [0, (S : Int)]) (by simp) (by simp)
        have m3 : decide (((y).length + [r3].length) * 8 ≤ AM.maxBytes) = true := room (by simp; omega) (by omega)
        simp only [cond_true, e3, Option.bind_some, m3]
        exact ⟨_, _, _, rfl, by first | omega | (simp; omega), s3⟩
      | false =>
        simp only [cond_false]
        exact ⟨_, _, _, rfl, by first | omega | (simp; omega), s2⟩
  | false =>
    simp only [cond_false]
    obtain ⟨r2, c2, d2, e2, _, _, s2⟩ := next_ok (k := k) s (n := 20) (by omega)
    simp only [e2, Option.bind_some]
    cases (r2 == 0) with
    | true =>
      obtain ⟨r3, c3, d3, e3, _, s3⟩ := pick_ok (k := k) s2 (l := [0, (S : Int)]) (by simp) (by simp)
      have m3 : decide (((y).length + [r3].length) * 8 ≤ AM.maxBytes) = true := room (by simp; omega) (by omega)
      simp only [cond_true, e3, Option.bind_some, m3]
      exact ⟨_, _, _, rfl, by first | omega | (simp; omega), s3⟩
    | false =>
      simp only [cond_false]
      exact ⟨_, _, _, rfl, by first | omega | (simp; omega), s2⟩

theorem l13DrawValues_ok {k : Nat} (K : 2^42 ≤ k) {z : List Int} {a b : Int} (hs : Src z a b) {S : Nat} (hS : S ≤ 10) : ∃ (y : List Int) (c d : Int), spec_l13DrawValues.f k (z, (a, (b, ()))) (S : Int) = some ((y, ()), ((z, (c, (d, ()))), ())) ∧ y.length ≤ 20 ∧ Src z c d := by
  unfold spec_l13DrawValues.f
  obtain ⟨w, e, c, d, y, rfl, hy, s⟩ := drawV_ok (R := (List Int × Unit) × (List Int × Int × Int × Unit) × Unit) K hs hS
  obtain ⟨r2, c2, d2, e2, _, _, s2⟩ := next_ok (k := k) s (n := 24) (by omega)
  have m0 : decide ((y.length + ([(0 : Int)] : List Int).length) * 8 ≤ AM.maxBytes) = true := room (by simp; omega) (by omega)
  simp only [e, e2, Option.bind_some, m0]
  cases (r2 == 0) with
  | true => exact ⟨_, _, _, rfl, by first | omega | (simp; omega), s2⟩
  | false =>
    simp only [cond_false]
    cases (r2 == 1) with
    | true =>
      simp only [cond_true]
      by_cases h : 0 < y.length
      · have h' : decide ((0 : Int) < (y.length : Int)) = true := by simp; omega
        simp only [gt0 h, h', decide_eq_true h, Int.le_refl, decide_true, Bool.and_self, cond_true]
        exact ⟨_, _, _, rfl, by first | omega | (simp; omega), s2⟩
      · simp only [not_gt0 h, cond_false]
        exact ⟨_, _, _, rfl, by omega, s2⟩
    | false => exact ⟨_, _, _, rfl, by omega, s2⟩

theorem seed_DrawSplitChips {R : Type} {k : Nat} (K : 2^42 ≤ k) {z : List Int} (hz : ∀ i, i < z.length → 0 ≤ z.getD i 0 ∧ z.getD i 0 < 256) (hl : z.length ≤ 2^40) : ∃ w, (∀ kx, spec_DrawSplitChips.i1001_l3 (R := R) k k (z, (0 : Int), z, (0 : Int), (45007 : Int)) kx = kx w) ∧ ∃ b, w = (z, 0, b) ∧ Src z 0 b := by
  refine loop_exk (L := fun n v kx => spec_DrawSplitChips.i1001_l3 (R := R) k n v kx) (S := fun rec kx v => spec_DrawSplitChips.i1001_s3 k rec kx v) (fun _ _ _ => rfl) (fun v => ∃ (i : Nat) (b : Int), v = (z, (i : Int), z, 0, b) ∧ Src z 0 b) (fun v => z.length - v.2.1.toNat) (fun w => ∃ b, w = (z, 0, b) ∧ Src z 0 b) ?_ k _ ⟨0, 45007, rfl, hz, hl, by omega, by omega, by omega, by omega⟩ (by simp only [Int.toNat_zero]; omega)
  rintro _ ⟨i, b, rfl, hs⟩
  unfold spec_DrawSplitChips.i1001_s3
  by_cases h : i < z.length
  · by_cases h' : (i : Int) < 64
    · right
      have hzi := hz i h
      obtain ⟨h1, h2, h3, h4, h5, h6⟩ := hs
      have d1 : decide ((2147483647 : Int) = 0) = false := by decide
      have w1 : IntKind.wrap .i64 (b * 61) = b * 61 := wrap_id (by omega) (by omega)
      have w2 : IntKind.wrap .i64 (z.getD i 0) = z.getD i 0 := wrap_id (by omega) (by omega)
      have w3 : IntKind.wrap .i64 (b * 61 + z.getD i 0) = b * 61 + z.getD i 0 := wrap_id (by omega) (by omega)
      have hb := tmod_in (x := b * 61 + z.getD i 0) (n := 2147483647) (by omega) (by omega)
      refine ⟨(z, ((i : Int) + 1), z, 0, Int.tmod (b * 61 + z.getD i 0) 2147483647), ⟨i + 1, _, rfl, h1, h2, h3, h4, hb.1, hb.2⟩, by simp only [Int.toNat_natCast]; omega, fun rec kx => ?_⟩
      simp only [ltD h, decide_eq_true h', nn, Bool.and_self, cond_true, Int.toNat_natCast, d1, Bool.not_false, w1, w2, w3, wrap_succ (show i < 2^62 by omega)]
    · left
      exact ⟨(z, 0, b), fun rec kx => by simp only [ltD h, decide_eq_false h', cond_true, cond_false], b, rfl, hs⟩
  · left
    have c0 : decide ((i : Int) < (z.length : Int)) = false := by simp; omega
    exact ⟨(z, 0, b), fun rec kx => by simp only [c0, cond_false], b, rfl, hs⟩

theorem seed_DrawHighWinners {R : Type} {k : Nat} (K : 2^42 ≤ k) {z : List Int} (hz : ∀ i, i < z.length → 0 ≤ z.getD i 0 ∧ z.getD i 0 < 256) (hl : z.length ≤ 2^40) : ∃ w, (∀ kx, spec_DrawHighWinners.i1001_l3 (R := R) k k (z, (0 : Int), z, (0 : Int), (45007 : Int)) kx = kx w) ∧ ∃ b, w = (z, 0, b) ∧ Src z 0 b := by
  refine loop_exk (L := fun n v kx => spec_DrawHighWinners.i1001_l3 (R := R) k n v kx) (S := fun rec kx v => spec_DrawHighWinners.i1001_s3 k rec kx v) (fun _ _ _ => rfl) (fun v => ∃ (i : Nat) (b : Int), v = (z, (i : Int), z, 0, b) ∧ Src z 0 b) (fun v => z.length - v.2.1.toNat) (fun w => ∃ b, w = (z, 0, b) ∧ Src z 0 b) ?_ k _ ⟨0, 45007, rfl, hz, hl, by omega, by omega, by omega, by omega⟩ (by simp only [Int.toNat_zero]; omega)
  rintro _ ⟨i, b, rfl, hs⟩
  unfold spec_DrawHighWinners.i1001_s3
  by_cases h : i < z.length
  · by_cases h' : (i : Int) < 64
    · right
      have hzi := hz i h
      obtain ⟨h1, h2, h3, h4, h5, h6⟩ := hs
      have d1 : decide ((2147483647 : Int) = 0) = false := by decide
      have w1 : IntKind.wrap .i64 (b * 61) = b * 61 := wrap_id (by omega) (by omega)
      have w2 : IntKind.wrap .i64 (z.getD i 0) = z.getD i 0 := wrap_id (by omega) (by omega)
      have w3 : IntKind.wrap .i64 (b * 61 + z.getD i 0) = b * 61 + z.getD i 0 := wrap_id (by omega) (by omega)
      have hb := tmod_in (x := b * 61 + z.getD i 0) (n := 2147483647) (by omega) (by omega)
      refine ⟨(z, ((i : Int) + 1), z, 0, Int.tmod (b * 61 + z.getD i 0) 2147483647), ⟨i + 1, _, rfl, h1, h2, h3, h4, hb.1, hb.2⟩, by simp only [Int.toNat_natCast]; omega, fun rec kx => ?_⟩
      simp only [ltD h, decide_eq_true h', nn, Bool.and_self, cond_true, Int.toNat_natCast, d1, Bool.not_false, w1, w2, w3, wrap_succ (show i < 2^62 by omega)]
    · left
      exact ⟨(z, 0, b), fun rec kx => by simp only [ltD h, decide_eq_false h', cond_true, cond_false], b, rfl, hs⟩
  · left
    have c0 : decide ((i : Int) < (z.length : Int)) = false := by simp; omega
    exact ⟨(z, 0, b), fun rec kx => by simp only [c0, cond_false], b, rfl, hs⟩

theorem DrawHighWinners_ok {k : Nat} (K : 2^42 ≤ k) {z : List Int} (hz : ∀ i, i < z.length → 0 ≤ z.getD i 0 ∧ z.getD i 0 < 256) (hl : z.length ≤ 2^40) : ∃ (p m : List Int), spec_DrawHighWinners.f k z = some ((p, (m, ())), ()) ∧ p.length ≤ 100 ∧ m.length ≤ 100 := by
  unfold spec_DrawHighWinners.f
  obtain ⟨w, e, b, rfl, hs⟩ := seed_DrawHighWinners (R := (List Int × List Int × Unit) × Unit) K hz hl
  obtain ⟨S, c, d, e1, hS, s1⟩ := l13DrawSeats_ok (k := k) hs
  obtain ⟨y, c2, d2, e2, hy, s2⟩ := l13DrawWinners_ok K s1 hS
  obtain ⟨v, c3, d3, e3, hv, s3⟩ := l13DrawValues_ok K s2 hS
  simp only [e, e1, e2, e3, Option.bind_some]
  exact ⟨y, v, rfl, by omega, by omega⟩

theorem DrawLowWinners_ok {k : Nat} (K : 2^42 ≤ k) {z : List Int} (hz : ∀ i, i < z.length → 0 ≤ z.getD i 0 ∧ z.getD i 0 < 256) (hl : z.length ≤ 2^40) : ∃ (p m : List Int), spec_DrawLowWinners.f k z = some ((p, (m, ())), ()) ∧ p.length ≤ 100 ∧ m.length ≤ 100 := by
  unfold spec_DrawLowWinners.f
  obtain ⟨p, m, e, h1, h2⟩ := DrawHighWinners_ok K hz hl
  simp only [e, Option.bind_some]
  exact ⟨p, m, rfl, h1, h2⟩

theorem DrawSplitChips_ok {k : Nat} (K : 2^42 ≤ k) {z : List Int} (hz : ∀ i, i < z.length → 0 ≤ z.getD i 0 ∧ z.getD i 0 < 256) (hl : z.length ≤ 2^40) : ∃ (a : Int) (w : List Int) (n f : Int), spec_DrawSplitChips.f k z = some ((a, (w, (n, (f, ())))), ()) ∧ w.length ≤ 100 := by
  unfold spec_DrawSplitChips.f
  obtain ⟨w, e, b, rfl, hs⟩ := seed_DrawSplitChips (R := (Int × List Int × Int × Int × Unit) × Unit) K hz hl
  obtain ⟨S, c, d, e1, hS, s1⟩ := l13DrawSeats_ok (k := k) hs
  obtain ⟨r2, c2, d2, e2, _, _, s2⟩ := next_ok (k := k) s1 (n := 100) (by omega)
  obtain ⟨r3, c3, d3, e3, _, s3⟩ := pick_ok (k := k) s2 (l := [0, 1, 7, 10, r2, 600000, 600001, -1, 25, 11]) (by simp) (by simp)
  obtain ⟨y, c4, d4, e4, hy, s4⟩ := l13DrawWinners_ok K s3 hS
  have w1 : IntKind.wrap .i64 ((S : Int) + 1) = (S : Int) + 1 := wrap_id (by omega) (by omega)
  obtain ⟨r5, c5, d5, e5, _, _, s5⟩ := next_ok (k := k) s4 (n := (S : Int) + 1) (by omega)
  obtain ⟨r6, c6, d6, e6, _, _, s6⟩ := next_ok (k := k) s5 (n := 20) (by omega)
  have d19 : decide ((19 : Int) = 0) = false := by decide
  simp only [e, e1, e2, e3, e4, w1, e5, e6, d19, Bool.not_false, cond_true, Option.bind_some]
  exact ⟨_, y, _, _, rfl, by omega⟩

theorem hasInt_eq {k : Nat} (K : 2^42 ≤ k) {l : List Int} (hl : l.length ≤ 2^40) (x : Int) : laws_hasInt.f k l x = some ((decide (x ∈ l), ()), ()) := by
  unfold laws_hasInt.f
  refine (laws_hasInt.l2_for l.length (fun i a b => l = a ∧ x = b) (fun i _ _ => some ((decide (x ∈ l.drop i), ()), ())) ?_ k 0 _ _ (Nat.zero_le _) ⟨rfl, rfl⟩ (by omega)).trans (by simp)
  rintro i _ _ rec hi ⟨rfl, rfl⟩ hrec
  unfold laws_hasInt.s2
  by_cases h : i < l.length
  · have e := hrec _ _ h ⟨rfl, rfl⟩
    simp only [ltD h, nn, Bool.and_self, cond_true, Int.toNat_natCast, getD_lt h, wrap_succ (show i < 2^62 by omega), e]
    rw [List.drop_eq_getElem_cons h]
    by_cases c : l[i] = x
    · have c' : (l[i] == x) = true := by rw [beq_iff_eq]; exact c
      simp only [c', cond_true]
      have : x ∈ l[i] :: l.drop (i + 1) := by rw [c]; simp
      rw [decide_eq_true this]
    · have c' : (l[i] == x) = false := by rw [beq_eq_false_iff_ne]; exact c
      simp only [c', cond_false]
      have : (x ∈ l[i] :: l.drop (i + 1)) ↔ (x ∈ l.drop (i + 1)) := by
        rw [List.mem_cons]
        constructor
        · rintro (e | e)
          · exact absurd e.symm c
          · exact e
        · exact .inr
      rw [decide_eq_decide.2 this]
  · have : i = l.length := by omega
    subst this
    have c0 : decide ((l.length : Int) < (l.length : Int)) = false := by simp
    simp only [c0, cond_false, List.drop_length]
    simp

theorem SplR_zero {a : Int} {w : List Int} {n f : Int} (h : (SplR a w n f).2 = 0) : inB 2 6 n = true ∧ wins w n = true ∧ inB 0 600000 a = true ∧ inB 0 (n - 1) f = true ∧ (SplR a w n f).1 = splitL w n.toNat f.toNat a := by
  unfold SplR at *
  by_cases c1 : inB 2 6 n = true
  · by_cases c2 : wins w n = true
    · by_cases c3 : inB 0 600000 a = true ∧ inB 0 (n - 1) f = true
      · rw [if_pos c1, if_pos c2, if_pos c3]
        exact ⟨c1, c2, c3.1, c3.2, rfl⟩
      · rw [if_pos c1, if_pos c2, if_neg c3] at h; simp at h
    · rw [if_pos c1, if_neg c2] at h; simp at h
  · rw [if_neg c1] at h; simp at h

theorem FnSplits_ok (a0 : List Int) {U : Prop} (w0 : U ∧ ∀ x ∈ a0, (decide (IntKind.min .u8 ≤ x) && decide (x ≤ IntKind.max .u8)) = true) : laws_FnSplits.f (2^42) a0 = some ((true, ()), ()) := by
  unfold laws_FnSplits.f laws_big.f
  have K : 2^42 ≤ 2^42 := Nat.le_refl _
  by_cases hb : (a0.length : Int) > 4096
  · simp only [decide_eq_true hb, Option.bind_some, cond_true]
  obtain ⟨a, w, n, f, e1, hw1⟩ := DrawSplitChips_ok K (seed_bytes w0.2) (by omega)
  obtain ⟨p, v, e2, hp, hv⟩ := DrawHighWinners_ok K (seed_bytes w0.2) (by omega)
  obtain ⟨p', v', e3, hp', hv'⟩ := DrawLowWinners_ok K (seed_bytes w0.2) (by omega)
  have hr := SplR_len a w n f
  have hr1 := WinR_len true p v (by omega)
  have hr2 := WinR_len false p' v' (by omega)
  simp only [decide_eq_false hb, Option.bind_some, cond_false, e1, e2, e3, sSplitChips_eq K (show w.length ≤ 2^40 by omega), iSplitChips_eq K (show w.length ≤ 2^40 by omega), sHighWinners_eq K (show p.length ≤ 2^40 by omega) (show v.length ≤ 2^40 by omega), iHighWinners_eq K (show p.length ≤ 2^40 by omega) (show v.length ≤ 2^40 by omega), sLowWinners_eq K (show p'.length ≤ 2^40 by omega) (show v'.length ≤ 2^40 by omega), iLowWinners_eq K (show p'.length ≤ 2^40 by omega) (show v'.length ≤ 2^40 by omega), bne_self_eq_false, likeInts_self K hr, likeInts_self K hr1, likeInts_self K hr2, Bool.not_true]
  by_cases hz : ¬ (SplR a w n f).2 = 0
  · have : ((SplR a w n f).2 != 0) = true := by rw [bne_iff_ne]; exact hz
    simp only [this, cond_true]
  have hz : (SplR a w n f).2 = 0 := Decidable.not_not.1 hz
  obtain ⟨c1, c2, c3, c4, c5⟩ := SplR_zero hz
  have hn := inB_iff.1 c1
  have ha := inB_iff.1 c3
  have hf := inB_iff.1 c4
  obtain ⟨S, rfl⟩ := Int.eq_ofNat_of_zero_le (show 0 ≤ n by omega)
  obtain ⟨F, rfl⟩ := Int.eq_ofNat_of_zero_le (show 0 ≤ f by omega)
  have hpos := wins_pos c2
  have hF : F < S := by omega
  have hd : decide ((w.length : Int) = 0) = false := decide_eq_false (by omega)
  have hlen := splitL_len w S F a
  simp only [hz, bne_self_eq_false, cond_false, c5, Int.toNat_natCast]
  have hq := div_le (n := w.length) ha.1
  have hw2 : IntKind.wrap .i64 (a.tdiv w.length) = a.tdiv w.length := wrap_id (by omega) (by omega)
  have hw3 : IntKind.wrap .i64 (a.tdiv w.length + 1) = a.tdiv w.length + 1 := wrap_id (by omega) (by omega)
  have hsum := splitL_sum c2 hF ha.1
  have hs : laws_sum.f (2^42) (splitL w S F a) = some ((a, ()), ()) := by
    have := sum_eq K (l := splitL w S F a) (by omega) (fun j hj => by
      have := spRun_in w S F ha.1 S _ (mem_getD.2 ⟨j, hj, rfl⟩ : (splitL w S F a).getD j 0 ∈ splitL w S F a)
      omega)
    rw [this, hsum]
  refine laws_FnSplits.l17_for S (fun i x3 y0 y1 => a = x3 ∧ w = y0 ∧ splitL w S F a = y1) (fun _ _ _ _ => some ((true, ()), ())) ?_ (2^42) 0 _ _ _ (Nat.zero_le _) ⟨rfl, rfl, rfl⟩ (by omega)
  rintro i _ _ _ rec hi ⟨rfl, rfl, rfl⟩ hrec
  unfold laws_FnSplits.s17
  by_cases h : i < S
  · have e := hrec _ _ _ h ⟨rfl, rfl, rfl⟩
    have h' : i < (splitL w S F a).length := by omega
    obtain ⟨g1, g2⟩ := splitL_seat (a := a) c2 hF h
    simp only [ltD h', nn, Bool.and_self, cond_true, hd, Bool.not_false, hasInt_eq K (show w.length ≤ 2^40 by omega), Option.bind_some, Int.toNat_natCast, decide_eq_true h', hw2, hw3, wrap_succ (show i < 2^62 by omega)]
    by_cases c : (i : Int) ∈ w
    · simp only [decide_eq_true c, cond_true]
      rcases g1 c with g | g
      · have b1 : ((splitL w S F a).getD i 0 != a.tdiv w.length) = false := by rw [bne_eq_false_iff_eq]; exact g
        simp only [b1, cond_false]; exact e
      · have b1 : ((splitL w S F a).getD i 0 != a.tdiv w.length) = true := by rw [bne_iff_ne]; omega
        have b2 : ((splitL w S F a).getD i 0 != a.tdiv w.length + 1) = false := by rw [bne_eq_false_iff_eq]; exact g
        simp only [b1, b2, cond_true, cond_false]; exact e
    · have b1 : ((splitL w S F a).getD i 0 != 0) = false := by rw [bne_eq_false_iff_eq]; exact g2 c
      simp only [decide_eq_false c, cond_false, b1]; exact e
  · have c0 : decide ((i : Int) < ((splitL w S F a).length : Int)) = false := by simp; omega
    simp only [c0, cond_false, hs, Option.bind_some, beq_self_eq_true]
end Go.Sh
