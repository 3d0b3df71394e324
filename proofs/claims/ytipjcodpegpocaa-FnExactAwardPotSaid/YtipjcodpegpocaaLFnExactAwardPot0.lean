/- What the Lean functions compute, in plain lists and numbers; conditions stand in each lemma. -/
import Derived.Test.YtipjcodpegpocaaSFnExactAwardPot0
set_option linter.unusedVariables false
set_option linter.unusedSimpArgs false
namespace Go.Sh
open Go
theorem l01In_eq (k : Nat) (a lo hi : Int) : spec_l01In.f k a lo hi = some ((inB lo hi a, ()), ()) := by
  unfold spec_l01In.f inB
  by_cases h : lo ≤ a <;> simp [h]

theorem within_eq (k : Nat) (a lo hi : Int) : impl_within.f k a lo hi = some ((inB lo hi a, ()), ()) := by
  unfold impl_within.f inB
  by_cases h : lo ≤ a <;> simp [h]

attribute [simp] l01In_eq within_eq

theorem allWithin_eq {k : Nat} (K : 2^42 ≤ k) {l : List Int} (hl : l.length ≤ 2^40) (a b : Int) : impl_allWithin.f k l a b = some ((l.all (inB a b), ()), ()) := by
  unfold impl_allWithin.f
  refine (impl_allWithin.l2_for l.length (fun _ x1 x2 x9 x10 => a = x1 ∧ b = x2 ∧ l = x9 ∧ (l.length : Int) = x10) (fun i _ _ _ _ => some (((l.drop i).all (inB a b), ()), ())) ?_ k 0 _ _ _ _ (Nat.zero_le _) ⟨rfl, rfl, rfl, rfl⟩ (by omega)).trans (by simp)
  rintro i _ _ _ _ rec hi ⟨rfl, rfl, rfl, rfl⟩ hrec
  unfold impl_allWithin.s2
  by_cases h : i < l.length
  · simp [h, wrap_succ (show i < 2^62 by omega), all_drop h, hrec _ _ _ _ h ⟨rfl, rfl, rfl, rfl⟩]
    cases inB a b l[i] <;> simp
  · have : i = l.length := by omega
    subst this
    simp

theorem toInt64S_eq {k : Nat} (K : 2^42 ≤ k) {l : List Int} (hl : l.length ≤ 2^40) : laws_toInt64S.f k l = some ((l, ()), ()) := by
  unfold laws_toInt64S.f
  have hm : (l.length : Int) * 8 ≤ 140737488355328 := by omega
  simp [AM.maxBytes, hm]
  refine (laws_toInt64S.l3_for l.length (fun i x0 y => l = x0 ∧ l.take i ++ List.replicate (l.length - i) 0 = y) (fun _ _ _ => some ((l, ()), ())) ?_ k 0 _ _ (Nat.zero_le _) ⟨rfl, by simp⟩ (by omega))
  rintro i _ _ rec hi ⟨rfl, rfl⟩ hrec
  unfold laws_toInt64S.s3
  by_cases h : i < l.length
  · have hmin : min i l.length + (l.length - i) = l.length := by omega
    simp [h, hmin, wrap_succ (show i < 2^62 by omega), copy_step h, hrec _ _ h ⟨rfl, rfl⟩]
  · have : i = l.length := by omega
    subst this
    simp

theorem eqInt64S_eq {k : Nat} (K : 2^42 ≤ k) {a b : List Int} (hl : a.length ≤ 2^40) : laws_eqInt64S.f k a b = some ((a == b, ()), ()) := by
  unfold laws_eqInt64S.f
  by_cases hab : a.length = b.length
  · simp only [hab, bne_self_eq_false, cond_false]
    refine (laws_eqInt64S.l4_for a.length (fun i x0 x1 => a = x0 ∧ b = x1) (fun i _ _ => some ((a.drop i == b.drop i, ()), ())) ?_ k 0 _ _ (Nat.zero_le _) ⟨rfl, rfl⟩ (by omega)).trans (by simp)
    rintro i _ _ rec hi ⟨rfl, rfl⟩ hrec
    unfold laws_eqInt64S.s4
    by_cases h : i < a.length
    · have h' : i < b.length := by omega
      simp [h, h', wrap_succ (show i < 2^62 by omega), beq_drop h h', hrec _ _ h ⟨rfl, rfl⟩, bne]
      cases a[i] == b[i] <;> simp
    · have : i = a.length := by omega
      subst this
      simp [hab]
  · have : (a == b) = false := by
      cases hq : a == b with
      | false => rfl
      | true => exact absurd (congrArg List.length (eq_of_beq hq)) hab
    have h2 : ((a.length : Int) != (b.length : Int)) = true := by simp; omega
    simp [h2, this]

theorem markInt64S_eq {k : Nat} (K : 2^42 ≤ k) {l : List Int} (hl : l.length ≤ 2^40) {a : Int} (h0 : 0 ≤ a) (h1 : a ≤ 2^60) : laws_markInt64S.f k l a = some ((a + l.length, ()), (marks a l.length, ())) := by
  unfold laws_markInt64S.f
  refine (laws_markInt64S.l2_for l.length (fun i x1 y => a + (i : Int) = x1 ∧ marks a i ++ l.drop i = y) (fun _ _ _ => some ((a + l.length, ()), (marks a l.length, ()))) ?_ k 0 _ _ (Nat.zero_le _) ⟨by simp, by simp [marks]⟩ (by omega))
  rintro i _ _ rec hi ⟨rfl, rfl⟩ hrec
  unfold laws_markInt64S.s2
  by_cases h : i < l.length
  · have hlen : (marks a i).length + (l.length - i) = l.length := by rw [marks_len]; omega
    have hw : IntKind.wrap .i64 (a + (i : Int) + 1) = a + ((i + 1 : Nat) : Int) := by rw [wrap_id (by omega) (by omega)]; omega
    simp only [List.length_append, List.length_drop, hlen, in_range h, in_rangeN h, Int.toNat_natCast, marks_step h, hw, wrap_succ (show i < 2^62 by omega), decide_eq_true (show (i : Int) < (l.length : Int) by omega), cond_true, hrec _ _ h ⟨rfl, rfl⟩]
    simp [h]
  · have : i = l.length := by omega
    subst this
    simp [marks_len]

theorem heldInt64S_eq {k : Nat} (K : 2^42 ≤ k) {n : Nat} (hl : n ≤ 2^40) {a : Int} (h0 : 0 ≤ a) (h1 : a ≤ 2^60) : laws_heldInt64S.f k (marks a n) a = some ((a + n, ()), ()) := by
  unfold laws_heldInt64S.f
  refine (laws_heldInt64S.l2_for n (fun i x0 x1 => marks a n = x0 ∧ a + (i : Int) = x1) (fun _ _ _ => some ((a + n, ()), ())) ?_ k 0 _ _ (Nat.zero_le _) ⟨rfl, by simp⟩ (by omega))
  rintro i _ _ rec hi ⟨rfl, rfl⟩ hrec
  unfold laws_heldInt64S.s2
  by_cases h : i < n
  · have hw : IntKind.wrap .i64 (a + (i : Int) + 1) = a + ((i + 1 : Nat) : Int) := by rw [wrap_id (by omega) (by omega)]; omega
    simp only [marks_len, in_range h, Int.toNat_natCast, hw, wrap_succ (show i < 2^62 by omega), decide_eq_true (show (i : Int) < (n : Int) by omega), cond_true, getD_lt (show i < (marks a n).length by rw [marks_len]; exact h), marks_get h, bne_self_eq_false, cond_false, hrec _ _ h ⟨rfl, rfl⟩]
    simp
  · have : i = n := by omega
    subst this
    simp [marks_len]

/-- What is too long: the law says nothing of it. -/
theorem long {α : Type} {l : List α} : (decide ((((l.length : Nat) : Int)) > (1048576 : Int))) = decide (1048576 < l.length) := by
  simp; omega

/-- Where x stands first. -/
theorem index_eq {k : Nat} (K : 2^42 ≤ k) {l : List Int} (hl : l.length ≤ 2^40) (x : Int) : slices_Index_int64_int64.f k l x = some ((if x ∈ l then ((l.idxOf x : Nat) : Int) else -1, ()), ()) := by
  unfold slices_Index_int64_int64.f
  refine (slices_Index_int64_int64.l2_for l.length (fun i x0 x1 x7 => l = x0 ∧ x = x1 ∧ (l.length : Int) = x7 ∧ ∀ j, j < i → l.getD j 0 ≠ x) (fun i _ _ _ => some ((if x ∈ l then ((l.idxOf x : Nat) : Int) else -1, ()), ())) ?_ k 0 _ _ _ (Nat.zero_le _) ⟨rfl, rfl, rfl, fun j hj => by omega⟩ (by omega))
  rintro i _ _ _ rec hi ⟨rfl, rfl, rfl, hno⟩ hrec
  unfold slices_Index_int64_int64.s2
  by_cases h : i < l.length
  · by_cases hx : x = l[i]
    · have hm : x ∈ l := hx ▸ List.getElem_mem h
      have hidx : l.idxOf x = i := idxOf_first h hx.symm (fun j hj => by have := hno j hj; rwa [getD_lt (show j < l.length by omega)] at this)
      simp [h, hx.symm, hm, hidx]
    · have hb : (x == l[i]) = false := by simp [hx]
      simp only [Int.toNat_natCast, getD_lt h, hb, nn, ltD h, Bool.and_self, wrap_succ (show i < 2^62 by omega), cond_true, cond_false]
      refine hrec _ _ _ h ⟨rfl, rfl, rfl, fun j hj => ?_⟩
      rcases Nat.lt_or_ge j i with e | e
      · exact hno j e
      · have : j = i := by omega
        subst this
        rw [getD_lt h]
        exact fun e => hx e.symm
  · have : i = l.length := by omega
    subst this
    have hm : x ∉ l := by
      intro hm
      obtain ⟨j, hj, e⟩ := List.mem_iff_getElem.1 hm
      exact hno j hj (by rw [getD_lt hj]; exact e)
    simp [hm]

theorem l01Has_eq {k : Nat} (K : 2^42 ≤ k) {l : List Int} (hl : l.length ≤ 2^40) (x : Int) : spec_l01Has.f k l x = some ((decide (x ∈ l), ()), ()) := by
  unfold spec_l01Has.f
  refine (spec_l01Has.l2_for l.length (fun i x0 x1 => l = x0 ∧ x = x1) (fun i _ _ => some ((decide (x ∈ l.drop i), ()), ())) ?_ k 0 _ _ (Nat.zero_le _) ⟨rfl, rfl⟩ (by omega)).trans (by simp)
  rintro i _ _ rec hi ⟨rfl, rfl⟩ hrec
  unfold spec_l01Has.s2
  by_cases h : i < l.length
  · simp only [nn, ltD h, Bool.and_self, Int.toNat_natCast, getD_lt h, wrap_succ (show i < 2^62 by omega), cond_true, hrec _ _ h ⟨rfl, rfl⟩]
    have e : (x ∈ l.drop i) ↔ (l[i] = x ∨ x ∈ l.drop (i + 1)) := by
      rw [List.drop_eq_getElem_cons h, List.mem_cons]
      exact ⟨fun h => h.imp Eq.symm id, fun h => h.imp Eq.symm id⟩
    by_cases hx : l[i] = x
    · simp [hx, e]
    · have hb : (l[i] == x) = false := by simp [hx]
      simp [hx, e, hb]
  · have : i = l.length := by omega
    subst this
    simp

theorem contains_eq {k : Nat} (K : 2^42 ≤ k) {l : List Int} (hl : l.length ≤ 2^40) (x : Int) : slices_Contains_int64_int64.f k l x = some ((decide (x ∈ l), ()), ()) := by
  unfold slices_Contains_int64_int64.f
  rw [index_eq K hl]
  by_cases h : x ∈ l <;> simp [h]

/-- Strictly rising. -/
def risesB : List Int → Bool
  | x :: y :: l => decide (x < y) && risesB (y :: l)
  | _ => true

theorem rises_drop {l : List Int} {i : Nat} (h : i + 1 < l.length) : risesB (l.drop i) = (decide (l[i] < l[i + 1]) && risesB (l.drop (i + 1))) := by
  rw [List.drop_eq_getElem_cons (show i < l.length by omega), List.drop_eq_getElem_cons h, risesB]

theorem rises_last {l : List Int} {i : Nat} (h : l.length ≤ i + 1) : risesB (l.drop i) = true := by
  have : (l.drop i).length ≤ 1 := by rw [List.length_drop]; omega
  match hd : l.drop i, this with
  | [], _ => rfl
  | [_], _ => rfl

theorem increasing_eq {k : Nat} (K : 2^42 ≤ k) {l : List Int} (hl : l.length ≤ 2^40) (h0 : 0 < l.length) : impl_increasing.f k l = some ((risesB l, ()), ()) := by
  unfold impl_increasing.f
  refine (impl_increasing.l2_for l.length (fun i x0 => l = x0 ∧ 1 ≤ i) (fun i _ => some ((risesB (l.drop (i - 1)), ()), ())) ?_ k 1 _ (by omega) ⟨rfl, by omega⟩ (by omega)).trans (by simp)
  rintro i _ rec hi ⟨rfl, h1⟩ hrec
  unfold impl_increasing.s2
  by_cases h : i < l.length
  · have hp : i - 1 < l.length := by omega
    have e : risesB (l.drop (i - 1)) = (decide (l[i - 1] < l[i]) && risesB (l.drop i)) := by
      have e1 : i - 1 + 1 = i := by omega
      have := rises_drop (l := l) (i := i - 1) (by omega)
      simp only [e1] at this
      exact this
    simp only [wrap_pred (show i < 2^62 by omega) (by omega), nn, ltD h, ltD hp, Bool.and_self, Int.toNat_natCast, getD_lt h, getD_lt hp, wrap_succ (show i < 2^62 by omega), cond_true, hrec _ h ⟨rfl, by omega⟩, e, Nat.add_sub_cancel]
    by_cases hx : l[i - 1] < l[i]
    · simp [hx, show ¬ l[i] ≤ l[i - 1] by omega]
    · simp [hx, show l[i] ≤ l[i - 1] by omega]
  · have : i = l.length := by omega
    subst this
    simp [rises_last (l := l) (i := l.length - 1) (by omega)]

theorem l01Rises_eq {k : Nat} (K : 2^42 ≤ k) {l : List Int} (hl : l.length ≤ 2^40) {n : Int} (h0 : 0 ≤ n) (h1 : n ≤ 2^40) : spec_l01Rises.f k l n = some ((l.all (inB 0 (n - 1)) && risesB l, ()), ()) := by
  unfold spec_l01Rises.f
  have hw : IntKind.wrap .i64 (n - 1) = n - 1 := wrap_id (by omega) (by omega)
  refine (spec_l01Rises.l2_for l.length (fun i x0 x1 => l = x0 ∧ n = x1) (fun i _ _ => some (((l.drop i).all (inB 0 (n - 1)) && risesB (l.drop (i - 1)), ()), ())) ?_ k 0 _ _ (by omega) ⟨rfl, rfl⟩ (by omega)).trans (by simp)
  rintro i _ _ rec hi ⟨rfl, rfl⟩ hrec
  unfold spec_l01Rises.s2
  by_cases h : i < l.length
  · simp only [hw, l01In_eq, nn, ltD h, Bool.and_self, Int.toNat_natCast, getD_lt h, wrap_succ (show i < 2^62 by omega), cond_true, hrec _ _ h ⟨rfl, rfl⟩, Option.bind_some, all_drop h, Nat.add_sub_cancel]
    cases hb : inB 0 (n - 1) l[i] with
    | false => simp
    | true =>
      simp only [Bool.not_true, cond_false, Bool.true_and]
      rcases Nat.eq_zero_or_pos i with e0 | e0
      · subst e0
        simp
      · have hp : i - 1 < l.length := by omega
        have e : risesB (l.drop (i - 1)) = (decide (l[i - 1] < l[i]) && risesB (l.drop i)) := by
          have e1 : i - 1 + 1 = i := by omega
          have := rises_drop (l := l) (i := i - 1) (by omega)
          simp only [e1] at this
          exact this
        have hpos : decide ((i : Int) > 0) = true := by simp; exact e0
        simp only [hpos, cond_true, wrap_pred (show i < 2^62 by omega) (by omega), nn, ltD hp, Bool.and_self, Int.toNat_natCast, getD_lt hp, e]
        by_cases hx : l[i - 1] < l[i]
        · simp [hx, show ¬ l[i] ≤ l[i - 1] by omega]
        · simp [hx, show l[i] ≤ l[i - 1] by omega]
  · have : i = l.length := by omega
    subst this
    simp [rises_last (l := l) (i := l.length - 1) (by omega)]

/-- Seats of a pot. -/
def wins (w : List Int) (n : Int) : Bool := decide (0 < w.length) && (w.all (inB 0 (n - 1)) && risesB w)

theorem l13Winners_eq {k : Nat} (K : 2^42 ≤ k) {l : List Int} (hl : l.length ≤ 2^40) {n : Int} (h0 : 0 ≤ n) (h1 : n ≤ 2^40) : spec_l13Winners.f k l n = some ((wins l n, ()), ()) := by
  unfold spec_l13Winners.f wins
  rw [l01Rises_eq K hl h0 h1]
  by_cases h : 0 < l.length <;> simp [h]

theorem areWinners_eq {k : Nat} (K : 2^42 ≤ k) {l : List Int} (hl : l.length ≤ 2^40) {n : Int} (h0 : 0 ≤ n) (h1 : n ≤ 2^40) : impl_areWinners.f k l n = some ((wins l n, ()), ()) := by
  unfold impl_areWinners.f wins
  have hw : IntKind.wrap .i64 (n - 1) = n - 1 := wrap_id (by omega) (by omega)
  by_cases h : 0 < l.length
  · have e : decide ((l.length : Int) > 0) = true := decide_eq_true (by omega)
    simp only [e, cond_true, hw, allWithin_eq K hl, Option.bind_some, h, decide_true, Bool.true_and]
    cases hb : l.all (inB 0 (n - 1)) with
    | false => simp
    | true => simp [increasing_eq K hl h]
  · have e : decide ((l.length : Int) > 0) = false := decide_eq_false (by omega)
    simp [e, h]

/-- One seat's turn: what is left over, and the shares. -/
def spStep (w : List Int) (S F : Nat) (q : Int) (s : Int × List Int) (i : Nat) : Int × List Int :=
  if (((F + i) % S : Nat) : Int) ∈ w then (if s.1 > 0 then (s.1 - 1, s.2.set ((F + i) % S) (q + 1)) else (s.1, s.2.set ((F + i) % S) q)) else s

def spRun (w : List Int) (S F : Nat) (a : Int) (i : Nat) : Int × List Int := (List.range i).foldl (spStep w S F (a.tdiv w.length)) (a.tmod w.length, List.replicate S 0)

/-- The shares. -/
def splitL (w : List Int) (S F : Nat) (a : Int) : List Int := (spRun w S F a S).2

theorem spRun_succ (w : List Int) (S F : Nat) (a : Int) (i : Nat) : spRun w S F a (i + 1) = spStep w S F (a.tdiv w.length) (spRun w S F a i) i := by
  unfold spRun; rw [List.range_succ, List.foldl_append]; rfl

theorem spStep_len (w : List Int) (S F : Nat) (q : Int) (s : Int × List Int) (i : Nat) : (spStep w S F q s i).2.length = s.2.length := by
  unfold spStep; split
  · split <;> simp
  · rfl

theorem spRun_len (w : List Int) (S F : Nat) (a : Int) : ∀ i, (spRun w S F a i).2.length = S
  | 0 => by simp [spRun]
  | i + 1 => by rw [spRun_succ, spStep_len, spRun_len w S F a i]

theorem spRun_rest (w : List Int) (S F : Nat) {a : Int} (h0 : 0 ≤ a) : ∀ i, 0 ≤ (spRun w S F a i).1 ∧ (spRun w S F a i).1 ≤ a
  | 0 => by
    simp only [spRun, List.range_zero, List.foldl_nil]
    obtain ⟨m, rfl⟩ := Int.eq_ofNat_of_zero_le h0
    have e : Int.tmod (m : Int) (w.length : Int) = ((m % w.length : Nat) : Int) := (Int.ofNat_tmod m w.length).symm
    rw [e]
    have := Nat.mod_le m w.length
    omega
  | i + 1 => by
    have := spRun_rest w S F h0 i
    rw [spRun_succ]
    unfold spStep
    split
    · split
      · simp only; omega
      · exact this
    · exact this

theorem div_le {a : Int} {n : Nat} (h0 : 0 ≤ a) : 0 ≤ a.tdiv n ∧ a.tdiv n ≤ a := ⟨Int.tdiv_nonneg h0 (Int.natCast_nonneg n), Int.tdiv_le_self _ h0⟩

theorem tmod_seat {S F i : Nat} (hF : F < 2^40) (hi : i < 2^40) : Int.tmod (IntKind.wrap .i64 ((F : Int) + (i : Int))) (S : Int) = (((F + i) % S : Nat) : Int) := by
  rw [wrap_id (by omega) (by omega)]
  exact (Int.ofNat_tmod (F + i) S).symm

theorem sSplit_eq {k : Nat} (K : 2^42 ≤ k) {w : List Int} (hl : w.length ≤ 2^40) (hw : 0 < w.length) {a : Int} (ha : 0 ≤ a) (ha' : a ≤ 2^40) {S F : Nat} (hS : 0 < S) (hS' : S ≤ 2^20) (hF : F < 2^40) :
    spec_l13Split.f k a w (S : Int) (F : Int) = some ((splitL w S F a, ()), ()) := by
  unfold spec_l13Split.f
  have hm : decide ((S : Int) * ((8 : Nat) : Int) ≤ (AM.maxBytes : Int)) = true := by unfold AM.maxBytes; simp; omega
  have hn : decide ((w.length : Int) = 0) = false := decide_eq_false (by omega)
  simp only [nn, Int.le_refl, decide_true, hm, Bool.and_self, cond_true, hn, Bool.not_false, Int.toNat_natCast]
  refine (spec_l13Split.l5_for S (fun i x0 x1 x2 x3 x10 x11 y => a = x0 ∧ w = x1 ∧ (S : Int) = x2 ∧ (F : Int) = x3 ∧ (w.length : Int) = x10 ∧ (spRun w S F a i).1 = x11 ∧ (spRun w S F a i).2 = y) (fun _ _ _ _ _ _ _ _ => some ((splitL w S F a, ()), ())) ?_ k 0 _ _ _ _ _ _ _ (Nat.zero_le _) ⟨rfl, rfl, rfl, rfl, rfl, rfl, rfl⟩ (by omega))
  rintro i _ _ _ _ _ _ _ rec hi ⟨rfl, rfl, rfl, rfl, rfl, rfl, rfl⟩ hrec
  unfold spec_l13Split.s5
  by_cases h : i < S
  · have ht : (F + i) % S < S := Nat.mod_lt _ hS
    have hlen := spRun_len w S F a i
    have hrest := spRun_rest w S F ha i
    have hq := div_le (n := w.length) ha
    have hS0 : decide ((S : Int) = 0) = false := decide_eq_false (by omega)
    have e := hrec a w (S : Int) (F : Int) (w.length : Int) _ _ h ⟨rfl, rfl, rfl, rfl, rfl, rfl, rfl⟩
    have hwq : IntKind.wrap .i64 (a.tdiv w.length) = a.tdiv w.length := wrap_id (by omega) (by omega)
    have hwq1 : IntKind.wrap .i64 (a.tdiv w.length + 1) = a.tdiv w.length + 1 := wrap_id (by omega) (by omega)
    have hwr : IntKind.wrap .i64 ((spRun w S F a i).1 - 1) = (spRun w S F a i).1 - 1 := wrap_id (by omega) (by omega)
    have htl : (F + i) % S < (spRun w S F a i).2.length := by omega
    simp only [ltD h, tmod_seat hF (show i < 2^40 by omega), hS0, hn, Bool.not_false, cond_true, l01Has_eq K hl, Option.bind_some, nn, hlen, ltD ht, Bool.and_self, Int.toNat_natCast, List.length_set, decide_eq_true ht, hwq, hwr, wrap_succ (show i < 2^62 by omega)]
    rw [spRun_succ] at e
    unfold spStep at e
    by_cases hin : (((F + i) % S : Nat) : Int) ∈ w
    · simp only [hin, decide_true, cond_true]
      rw [if_pos hin] at e
      by_cases hr : (spRun w S F a i).1 > 0
      · rw [if_pos hr] at e
        have hg : ((spRun w S F a i).2.set ((F + i) % S) (a.tdiv w.length)).getD ((F + i) % S) 0 = a.tdiv w.length := by
          rw [getD_lt (by rw [List.length_set]; omega)]; simp
        simp only [decide_eq_true hr, cond_true, hg, hwq1, List.set_set]
        exact e
      · rw [if_neg hr] at e
        simp only [decide_eq_false hr, cond_false]
        exact e
    · simp only [hin, decide_false, cond_false]
      rw [if_neg hin] at e
      exact e
  · have : i = S := by omega
    subst this
    simp [splitL]

theorem iSplit_eq {k : Nat} (K : 2^42 ≤ k) {w : List Int} (hl : w.length ≤ 2^40) (hw : 0 < w.length) {a : Int} (ha : 0 ≤ a) (ha' : a ≤ 2^40) {S F : Nat} (hS : 0 < S) (hS' : S ≤ 2^20) (hF : F < 2^40) :
    impl_splitChips.f k a w (S : Int) (F : Int) = some ((splitL w S F a, ()), ()) := by
  unfold impl_splitChips.f
  have hm : decide ((S : Int) * ((8 : Nat) : Int) ≤ (AM.maxBytes : Int)) = true := by unfold AM.maxBytes; simp; omega
  have hn : decide ((w.length : Int) = 0) = false := decide_eq_false (by omega)
  simp only [nn, Int.le_refl, decide_true, hm, Bool.and_self, cond_true, hn, Bool.not_false, Int.toNat_natCast]
  refine (impl_splitChips.l5_for S (fun i x0 x1 x2 x3 x10 x11 x21 y => a = x0 ∧ w = x1 ∧ (S : Int) = x2 ∧ (F : Int) = x3 ∧ (w.length : Int) = x10 ∧ (spRun w S F a i).1 = x11 ∧ (S : Int) = x21 ∧ (spRun w S F a i).2 = y) (fun _ _ _ _ _ _ _ _ _ => some ((splitL w S F a, ()), ())) ?_ k 0 _ _ _ _ _ _ _ _ (Nat.zero_le _) ⟨rfl, rfl, rfl, rfl, rfl, rfl, rfl, rfl⟩ (by omega))
  rintro i _ _ _ _ _ _ _ _ rec hi ⟨rfl, rfl, rfl, rfl, rfl, rfl, rfl, rfl⟩ hrec
  unfold impl_splitChips.s5
  by_cases h : i < S
  · have ht : (F + i) % S < S := Nat.mod_lt _ hS
    have hlen := spRun_len w S F a i
    have hrest := spRun_rest w S F ha i
    have hq := div_le (n := w.length) ha
    have hS0 : decide ((S : Int) = 0) = false := decide_eq_false (by omega)
    have e := hrec a w (S : Int) (F : Int) (w.length : Int) _ (S : Int) _ h ⟨rfl, rfl, rfl, rfl, rfl, rfl, rfl, rfl⟩
    have hwq : IntKind.wrap .i64 (a.tdiv w.length) = a.tdiv w.length := wrap_id (by omega) (by omega)
    have hwq1 : IntKind.wrap .i64 (a.tdiv w.length + 1) = a.tdiv w.length + 1 := wrap_id (by omega) (by omega)
    have hwr : IntKind.wrap .i64 ((spRun w S F a i).1 - 1) = (spRun w S F a i).1 - 1 := wrap_id (by omega) (by omega)
    have htl : (F + i) % S < (spRun w S F a i).2.length := by omega
    simp only [ltD h, tmod_seat hF (show i < 2^40 by omega), hS0, hn, Bool.not_false, cond_true, contains_eq K hl, Option.bind_some, nn, hlen, ltD ht, Bool.and_self, Int.toNat_natCast, List.length_set, decide_eq_true ht, hwq, hwr, wrap_succ (show i < 2^62 by omega)]
    rw [spRun_succ] at e
    unfold spStep at e
    by_cases hin : (((F + i) % S : Nat) : Int) ∈ w
    · simp only [hin, decide_true, Bool.not_true, cond_false]
      rw [if_pos hin] at e
      by_cases hr : (spRun w S F a i).1 > 0
      · rw [if_pos hr] at e
        have hg : ((spRun w S F a i).2.set ((F + i) % S) (a.tdiv w.length)).getD ((F + i) % S) 0 = a.tdiv w.length := by
          rw [getD_lt (by rw [List.length_set]; omega)]; simp
        simp only [decide_eq_true hr, cond_true, hg, hwq1, List.set_set]
        exact e
      · rw [if_neg hr] at e
        simp only [decide_eq_false hr, cond_false]
        exact e
    · simp only [hin, decide_false, Bool.not_false, cond_true]
      rw [if_neg hin] at e
      exact e
  · have : i = S := by omega
    subst this
    simp [splitL]

theorem inB_iff {a b x : Int} : inB a b x = true ↔ a ≤ x ∧ x ≤ b := by simp [inB]

theorem wins_pos {w : List Int} {n : Int} (h : wins w n = true) : 0 < w.length := by simp only [wins, Bool.and_eq_true, decide_eq_true_eq] at h; exact h.1

/-- One seat's turn: the best value so far (below 0: none), and who has it. -/
def bestStep (hi : Bool) (vals : List Int) (s : Int × List Int) (w : Int) : Int × List Int :=
  if vals.getD w.toNat 0 < 0 then s else if s.1 < 0 ∨ (hi = true ∧ vals.getD w.toNat 0 > s.1) ∨ (hi = false ∧ vals.getD w.toNat 0 < s.1) then (vals.getD w.toNat 0, [w]) else if vals.getD w.toNat 0 = s.1 then (s.1, s.2 ++ [w]) else s

def bestRun (hi : Bool) (vals ws : List Int) (i : Nat) : Int × List Int := (ws.take i).foldl (bestStep hi vals) (-1, [])

def bestL (hi : Bool) (vals ws : List Int) : List Int := (bestRun hi vals ws ws.length).2

theorem bestRun_succ {hi : Bool} {vals ws : List Int} {i : Nat} (h : i < ws.length) : bestRun hi vals ws (i + 1) = bestStep hi vals (bestRun hi vals ws i) ws[i] := by
  unfold bestRun; rw [← List.take_append_getElem h, List.foldl_append]; rfl

theorem bestRun_len (hi : Bool) (vals ws : List Int) : ∀ i, (bestRun hi vals ws i).2.length ≤ i
  | 0 => by simp [bestRun]
  | i + 1 => by
    by_cases h : i < ws.length
    · have := bestRun_len hi vals ws i
      rw [bestRun_succ h]
      unfold bestStep
      split
      · omega
      · split
        · simp
        · split
          · simp; omega
          · omega
    · have e : ws.take (i + 1) = ws.take i := by rw [List.take_of_length_le (by omega), List.take_of_length_le (by omega)]
      unfold bestRun at *
      rw [e]
      have := bestRun_len hi vals ws i
      unfold bestRun at this
      omega

theorem sBest_eq {k : Nat} (K : 2^42 ≤ k) {ws vals : List Int} (hl : ws.length ≤ 2^40) (hv : ws.all (inB 0 ((vals.length : Int) - 1)) = true) (hi : Bool) : spec_l13Best.f k ws vals hi = some ((bestL hi vals ws, ()), ()) := by
  unfold spec_l13Best.f
  refine (spec_l13Best.l4_for ws.length (fun i x0 x1 x2 x8 y => ws = x0 ∧ vals = x1 ∧ hi = x2 ∧ (bestRun hi vals ws i).1 = x8 ∧ (bestRun hi vals ws i).2 = y) (fun _ _ _ _ _ _ => some ((bestL hi vals ws, ()), ())) ?_ k 0 _ _ _ _ _ (Nat.zero_le _) ⟨rfl, rfl, rfl, rfl, rfl⟩ (by omega))
  rintro i _ _ _ _ _ rec hi' ⟨rfl, rfl, rfl, rfl, rfl⟩ hrec
  unfold spec_l13Best.s4
  by_cases h : i < ws.length
  · have hb := all_inB hv ws[i] (List.getElem_mem h)
    have e := hrec ws vals hi _ _ h ⟨rfl, rfl, rfl, rfl, rfl⟩
    rw [bestRun_succ h] at e
    unfold bestStep at e
    have hlen := bestRun_len hi vals ws i
    obtain ⟨j, hj⟩ := Int.eq_ofNat_of_zero_le hb.1
    have hj' : ws[i] = (j : Int) := hj
    have hjl : j < vals.length := by omega
    have hr : decide (((bestRun hi vals ws i).2.length + 1) * 8 ≤ AM.maxBytes) = true := room (by omega) (by omega)
    rw [hj'] at e
    simp only [Int.toNat_natCast] at e
    simp only [nn, ltD h, Bool.and_self, Int.toNat_natCast, getD_lt h, hj', ltD hjl, wrap_succ (show i < 2^62 by omega), cond_true, List.length_singleton, hr]
    generalize bestRun hi vals ws i = s at *
    obtain ⟨v, hv'⟩ : ∃ v, vals.getD j 0 = v := ⟨_, rfl⟩
    simp only [hv'] at e ⊢
    by_cases c1 : v < 0
    · rw [if_pos c1] at e
      simp only [decide_eq_true c1, cond_true, e]
    · rw [if_neg c1] at e
      simp only [decide_eq_false c1, cond_false]
      by_cases c2 : s.1 < 0
      · rw [if_pos (.inl c2)] at e
        simp only [decide_eq_true c2, cond_true, e]
      · simp only [decide_eq_false c2, cond_false]
        cases hi with
        | true =>
          by_cases c3 : v > s.1
          · rw [if_pos (.inr (.inl ⟨rfl, c3⟩))] at e
            simp only [decide_eq_true c3, cond_true, e]
          · rw [if_neg (by simp; omega)] at e
            simp only [decide_eq_false c3, cond_true, cond_false, Bool.not_true]
            by_cases c4 : v = s.1
            · rw [if_pos c4] at e
              simp only [c4, beq_self_eq_true, cond_true, e]
            · rw [if_neg c4] at e
              have hb4 : (v == s.1) = false := by simp [c4]
              simp only [hb4, cond_false, e]
        | false =>
          by_cases c3 : v < s.1
          · rw [if_pos (.inr (.inr ⟨rfl, c3⟩))] at e
            simp only [decide_eq_true c3, cond_true, cond_false, Bool.not_false, e]
          · rw [if_neg (by simp; omega)] at e
            simp only [decide_eq_false c3, cond_true, cond_false, Bool.not_false]
            by_cases c4 : v = s.1
            · rw [if_pos c4] at e
              simp only [c4, beq_self_eq_true, cond_true, e]
            · rw [if_neg c4] at e
              have hb4 : (v == s.1) = false := by simp [c4]
              simp only [hb4, cond_false, e]
  · have : i = ws.length := by omega
    subst this
    simp [bestL]

theorem bestRun_low (vals ws : List Int) : ∀ i, (bestRun true vals ws i).1 < 0 → (bestRun true vals ws i).2 = []
  | 0 => by simp [bestRun]
  | i + 1 => by
    by_cases h : i < ws.length
    · have := bestRun_low vals ws i
      rw [bestRun_succ h]
      unfold bestStep
      split
      · exact this
      · split
        · intro hlt; simp only at hlt; omega
        · rename_i c1 c2
          split
          · intro hlt; simp only at hlt; exact absurd (.inl hlt) c2
          · intro hlt; exact absurd (.inl hlt) c2
    · have e : ws.take (i + 1) = ws.take i := by rw [List.take_of_length_le (by omega), List.take_of_length_le (by omega)]
      have := bestRun_low vals ws i
      unfold bestRun at *
      rw [e]
      exact this

theorem iHigh_eq {k : Nat} (K : 2^42 ≤ k) {ws vals : List Int} (hl : ws.length ≤ 2^40) (hv : ws.all (inB 0 ((vals.length : Int) - 1)) = true) : impl_highWinners.f k ws vals = some ((bestL true vals ws, ()), ()) := by
  unfold impl_highWinners.f
  refine (impl_highWinners.l4_for ws.length (fun i x1 x6 x9 x10 y => vals = x1 ∧ max 0 (bestRun true vals ws i).1 = x6 ∧ ws = x9 ∧ (ws.length : Int) = x10 ∧ (bestRun true vals ws i).2 = y) (fun _ _ _ _ _ _ => some ((bestL true vals ws, ()), ())) ?_ k 0 _ _ _ _ _ (Nat.zero_le _) ⟨rfl, rfl, rfl, rfl, rfl⟩ (by omega))
  rintro i _ _ _ _ _ rec hi' ⟨rfl, rfl, rfl, rfl, rfl⟩ hrec
  unfold impl_highWinners.s4
  by_cases h : i < ws.length
  · have hb := all_inB hv ws[i] (List.getElem_mem h)
    have e := hrec vals _ ws _ _ h ⟨rfl, rfl, rfl, rfl, rfl⟩
    have hlen := bestRun_len true vals ws i
    have hlow := bestRun_low vals ws i
    obtain ⟨j, hj⟩ := Int.eq_ofNat_of_zero_le hb.1
    have hj' : ws[i] = (j : Int) := hj
    have hjl : j < vals.length := by omega
    have hr : decide (((bestRun true vals ws i).2.length + 1) * 8 ≤ AM.maxBytes) = true := room (by omega) (by omega)
    have hr1 : decide (1 * 8 ≤ AM.maxBytes) = true := room (by omega) (by omega)
    rw [bestRun_succ h, hj'] at e
    obtain ⟨v, hv'⟩ : ∃ v, vals.getD j 0 = v := ⟨_, rfl⟩
    simp only [nn, ltD h, Bool.and_self, Int.toNat_natCast, getD_lt h, hj', ltD hjl, wrap_succ (show i < 2^62 by omega), cond_true, List.length_singleton, hr, hr1, beq_self_eq_true, hv']
    generalize bestRun true vals ws i = s at *
    have step : ∀ q, (if v < 0 then s else if s.1 < 0 ∨ v > s.1 then (v, [(j : Int)]) else if v = s.1 then (s.1, s.2 ++ [(j : Int)]) else s) = q → rec (vals, max 0 q.1, ws, (ws.length : Int), (i : Int) + 1, q.2) = some ((bestL true vals ws, ()), ()) := by
      intro q hq
      have : bestStep true vals s (j : Int) = q := by
        rw [← hq]
        unfold bestStep
        simp only [Int.toNat_natCast, hv', true_and, Bool.true_eq_false, false_and, or_false]
      rw [this] at e
      exact e
    clear e
    by_cases c1 : v < 0
    · have e := step s (by rw [if_pos c1])
      have c3 : ¬ v > max 0 s.1 := by omega
      have c4 : (v == max 0 s.1) = false := by simp only [beq_eq_false_iff_ne]; omega
      simp only [decide_eq_false c3, c4, cond_false, e]
    · by_cases c2 : s.1 < 0
      · have e := step (v, [(j : Int)]) (by rw [if_neg c1, if_pos (.inl c2)])
        have hm : max 0 s.1 = 0 := by omega
        simp only [hm]
        have hmv : max 0 v = v := by omega
        simp only [hmv] at e
        by_cases c3 : v > 0
        · simp only [decide_eq_true c3, cond_true, e]
        · have : v = 0 := by omega
          subst this
          have hnil := hlow c2
          simp only [hnil, Int.lt_irrefl, decide_false, cond_false, beq_self_eq_true, cond_true, List.nil_append, gt_iff_lt, e]
      · have hm : max 0 s.1 = s.1 := by omega
        simp only [hm]
        by_cases c3 : v > s.1
        · have e := step (v, [(j : Int)]) (by rw [if_neg c1, if_pos (.inr c3)])
          have hmv : max 0 v = v := by omega
          simp only [hmv] at e
          simp only [decide_eq_true c3, cond_true, e]
        · by_cases c4 : v = s.1
          · have e := step (s.1, s.2 ++ [(j : Int)]) (by rw [if_neg c1, if_neg (by omega), if_pos c4])
            simp only [hm] at e
            simp only [decide_eq_false c3, cond_false, c4, beq_self_eq_true, cond_true, e]
            simp only [Int.lt_irrefl, gt_iff_lt, decide_false, cond_false]
          · have e := step s (by rw [if_neg c1, if_neg (by omega), if_neg c4])
            simp only [hm] at e
            have hb4 : (v == s.1) = false := by simp [c4]
            simp only [decide_eq_false c3, cond_false, hb4, e]
  · have : i = ws.length := by omega
    subst this
    simp [bestL]

theorem iLow_eq {k : Nat} (K : 2^42 ≤ k) {ws vals : List Int} (hl : ws.length ≤ 2^40) (hv : ws.all (inB 0 ((vals.length : Int) - 1)) = true) : impl_lowWinners.f k ws vals = some ((bestL false vals ws, ()), ()) := by
  unfold impl_lowWinners.f
  refine (impl_lowWinners.l4_for ws.length (fun i x1 x6 x9 x10 y => vals = x1 ∧ (bestRun false vals ws i).1 = x6 ∧ ws = x9 ∧ (ws.length : Int) = x10 ∧ (bestRun false vals ws i).2 = y) (fun _ _ _ _ _ _ => some ((bestL false vals ws, ()), ())) ?_ k 0 _ _ _ _ _ (Nat.zero_le _) ⟨rfl, by simp [bestRun], rfl, rfl, rfl⟩ (by omega))
  rintro i _ _ _ _ _ rec hi' ⟨rfl, rfl, rfl, rfl, rfl⟩ hrec
  unfold impl_lowWinners.s4
  by_cases h : i < ws.length
  · have hb := all_inB hv ws[i] (List.getElem_mem h)
    have e := hrec vals _ ws _ _ h ⟨rfl, rfl, rfl, rfl, rfl⟩
    have hlen := bestRun_len false vals ws i
    obtain ⟨j, hj⟩ := Int.eq_ofNat_of_zero_le hb.1
    have hj' : ws[i] = (j : Int) := hj
    have hjl : j < vals.length := by omega
    have hr : decide (((bestRun false vals ws i).2.length + 1) * 8 ≤ AM.maxBytes) = true := room (by omega) (by omega)
    have hr1 : decide (1 * 8 ≤ AM.maxBytes) = true := room (by omega) (by omega)
    rw [bestRun_succ h, hj'] at e
    obtain ⟨v, hv'⟩ : ∃ v, vals.getD j 0 = v := ⟨_, rfl⟩
    simp only [nn, ltD h, Bool.and_self, Int.toNat_natCast, getD_lt h, hj', ltD hjl, wrap_succ (show i < 2^62 by omega), cond_true, List.length_singleton, hr, hr1, beq_self_eq_true, hv']
    generalize bestRun false vals ws i = s at *
    have step : ∀ q, (if v < 0 then s else if s.1 < 0 ∨ v < s.1 then (v, [(j : Int)]) else if v = s.1 then (s.1, s.2 ++ [(j : Int)]) else s) = q → rec (vals, q.1, ws, (ws.length : Int), (i : Int) + 1, q.2) = some ((bestL false vals ws, ()), ()) := by
      intro q hq
      have : bestStep false vals s (j : Int) = q := by
        rw [← hq]
        unfold bestStep
        simp only [Int.toNat_natCast, hv', true_and, Bool.false_eq_true, false_and, false_or]
      rw [this] at e
      exact e
    clear e
    by_cases c1 : v < 0
    · have e := step s (by rw [if_pos c1])
      simp only [decide_eq_true c1, cond_true, e]
    · simp only [decide_eq_false c1, cond_false]
      by_cases c2 : s.1 < 0
      · have e := step (v, [(j : Int)]) (by rw [if_neg c1, if_pos (.inl c2)])
        simp only [decide_eq_true c2, cond_true, e]
      · simp only [decide_eq_false c2, cond_false]
        by_cases c3 : v < s.1
        · have e := step (v, [(j : Int)]) (by rw [if_neg c1, if_pos (.inr c3)])
          simp only [decide_eq_true c3, cond_true, e]
        · simp only [decide_eq_false c3, cond_false]
          by_cases c4 : v = s.1
          · have e := step (s.1, s.2 ++ [(j : Int)]) (by rw [if_neg c1, if_neg (by omega), if_pos c4])
            simp only [c4, beq_self_eq_true, cond_true, e]
          · have e := step s (by rw [if_neg c1, if_neg (by omega), if_neg c4])
            have hb4 : (v == s.1) = false := by simp [c4]
            simp only [hb4, cond_false, e]
  · have : i = ws.length := by omega
    subst this
    simp [bestL]

/-- Values that are at least -1. -/
def valsB (l : List Int) : Bool := l.all fun n => decide (-1 ≤ n)

theorem l13Values_eq {k : Nat} (K : 2^42 ≤ k) {l : List Int} (hl : l.length ≤ 2^40) (n : Int) : spec_l13Values.f k l n = some ((valsB l && ((l.length : Int) == n), ()), ()) := by
  unfold spec_l13Values.f valsB
  refine (spec_l13Values.l2_for l.length (fun _ x0 x1 => l = x0 ∧ n = x1) (fun i _ _ => some (((l.drop i).all (fun n => decide (-1 ≤ n)) && ((l.length : Int) == n), ()), ())) ?_ k 0 l n (Nat.zero_le _) ⟨rfl, rfl⟩ (by omega)).trans (by simp)
  rintro i _ _ rec hi ⟨rfl, rfl⟩ hrec
  unfold spec_l13Values.s2
  by_cases h : i < l.length
  · simp only [nn, ltD h, Bool.and_self, Int.toNat_natCast, getD_lt h, wrap_succ (show i < 2^62 by omega), cond_true, all_drop h, hrec _ _ h ⟨rfl, rfl⟩]
    by_cases c : l[i] < -1
    · simp only [decide_eq_true c, cond_true, decide_eq_false (show ¬ -1 ≤ l[i] by omega), Bool.false_and]
    · simp only [decide_eq_false c, cond_false, decide_eq_true (show -1 ≤ l[i] by omega), Bool.true_and]
  · have : i = l.length := by omega
    subst this
    simp

theorem areValues_eq {k : Nat} (K : 2^42 ≤ k) {l : List Int} (hl : l.length ≤ 2^40) : impl_areValues.f k l = some ((valsB l, ()), ()) := by
  unfold impl_areValues.f valsB
  refine (impl_areValues.i1001_i1002_l2_for l.length (fun _ x0 x7 => l = x0 ∧ (l.length : Int) = x7) (fun i _ _ => some (((l.drop i).all (fun n => decide (-1 ≤ n)), ()), ())) ?_ k 0 _ _ (Nat.zero_le _) ⟨rfl, rfl⟩ (by omega)).trans (by simp)
  rintro i _ _ rec hi ⟨rfl, rfl⟩ hrec
  unfold impl_areValues.i1001_i1002_s2 impl_areValues_1.f
  by_cases h : i < l.length
  · simp only [nn, ltD h, Bool.and_self, Int.toNat_natCast, getD_lt h, wrap_succ (show i < 2^62 by omega), cond_true, all_drop h, hrec _ _ h ⟨rfl, rfl⟩, Option.bind_some]
    by_cases c : l[i] < -1
    · have : decide ((i : Int) ≥ 0) = true := by simp
      simp only [decide_eq_true c, cond_true, decide_eq_false (show ¬ -1 ≤ l[i] by omega), Bool.false_and, this, Bool.not_true]
    · simp only [decide_eq_false c, cond_false, decide_eq_true (show -1 ≤ l[i] by omega), Bool.true_and]
  · have : i = l.length := by omega
    subst this
    simp

theorem wins_all {w : List Int} {n : Int} (h : wins w n = true) : w.all (inB 0 (n - 1)) = true := by
  simp only [wins, Bool.and_eq_true] at h; exact h.2.1

/-- Two lists' sums, place by place. -/
def addL (a b : List Int) : List Int := List.zipWith (fun x y => IntKind.wrap .i64 (x + y)) a b

theorem addL_len {y r : List Int} (h : r.length = y.length) : (addL y r).length = y.length := by simp [addL, h]

theorem addL_get {y r : List Int} {i : Nat} (h1 : i < y.length) (h2 : i < r.length) : (addL y r)[i]'(by simp [addL]; omega) = IntKind.wrap .i64 (y[i] + r[i]) := by simp [addL]

theorem addL_comm (a b : List Int) : addL a b = addL b a := by
  unfold addL
  rw [List.zipWith_comm]
  congr 1
  funext x y
  rw [Int.add_comm]

theorem addL_zero {S : Nat} {l : List Int} (h : l.length = S) (hb : ∀ x ∈ l, -9223372036854775808 ≤ x ∧ x < 9223372036854775808) : addL (List.replicate S 0) l = l := by
  apply List.ext_getElem
  · simp [addL, h]
  · intro i h1 h2
    rw [addL_get (by simp; omega) h2]
    have := hb l[i] (List.getElem_mem h2)
    rw [List.getElem_replicate, Int.zero_add, wrap_id this.1 this.2]

theorem i10005_eq {R : Type} {k : Nat} (K : 2^42 ≤ k) {y r : List Int} (hr : r.length = y.length) (hl : y.length ≤ 2^40) (v1 v2 : List Int) (ps : List (Int × ((List Int) × Unit))) (ln pi S F : Int) (a : Int) (w h : List Int) kx0 : impl_awarded.i10005_l1 (R := R) k k ((r.length : Int), 0, v1, v2, ps, ln, pi, y, r, S, F, a, w, h) kx0 = kx0 (v1, v2, ps, ln, pi, addL y r, S, F, a, w, h) := by
  have hA := addL_len hr
  refine (impl_awarded.i10005_l1_for r.length (fun i x14 x4096 x4097 x4102 x4103 x4104 y0 y2 z3 z4 z5_0 z5_1 y6 => (r.length : Int) = x14 ∧ v1 = x4096 ∧ v2 = x4097 ∧ ps = x4102 ∧ ln = x4103 ∧ pi = x4104 ∧ (addL y r).take i ++ y.drop i = y0 ∧ r = y2 ∧ S = z3 ∧ F = z4 ∧ a = z5_0 ∧ w = z5_1 ∧ h = y6) (fun _ _ _ _ _ _ _ _ _ _ _ _ _ _ => kx0 (v1, v2, ps, ln, pi, addL y r, S, F, a, w, h)) ?_ k 0 _ _ _ _ _ _ _ _ _ _ _ _ _ (Nat.zero_le _) ⟨rfl, rfl, rfl, rfl, rfl, rfl, by simp, rfl, rfl, rfl, rfl, rfl, rfl⟩ (by omega))
  rintro i _ _ _ _ _ _ _ _ _ _ _ _ _ rec hi ⟨rfl, rfl, rfl, rfl, rfl, rfl, rfl, rfl, rfl, rfl, rfl, rfl, rfl⟩ hrec
  unfold impl_awarded.i10005_s1
  by_cases h' : i < r.length
  · have hy : i < y.length := by omega
    have hu := upd_len (l := addL y r) (m := y) (i := i) hA (by omega)
    have hg := upd_get (l := addL y r) (m := y) (i := i) hA hy (0 : Int)
    have hs := upd_step (l := addL y r) (m := y) (i := i) (by omega) hy
    rw [addL_get hy h'] at hs
    have e := hrec _ _ _ _ _ _ _ _ _ _ _ _ _ h' ⟨rfl, rfl, rfl, rfl, rfl, rfl, rfl, rfl, rfl, rfl, rfl, rfl, rfl⟩
    simp only [nn, ltD h', hu, ltD hy, Bool.and_self, Int.toNat_natCast, getD_lt h', hg, hs, decide_eq_true h', decide_eq_true hy, wrap_succ (show i < 2^62 by omega), cond_true, e]
  · have : i = r.length := by omega
    subst this
    have hd : (addL y r).take r.length ++ y.drop r.length = addL y r := by
      rw [List.take_of_length_le (by omega), List.drop_eq_nil_of_le (by omega), List.append_nil]
    have hlt : decide ((r.length : Int) < (r.length : Int)) = false := by simp
    simp only [hlt, cond_false, hd]

theorem i11008_eq {R : Type} {k : Nat} (K : 2^42 ≤ k) {y r : List Int} (hr : r.length = y.length) (hl : y.length ≤ 2^40) (v1 v2 : List Int) (ps : List (Int × ((List Int) × Unit))) (ln pi S F : Int) kx0 : impl_awarded.i11008_l1 (R := R) k k ((r.length : Int), 0, v1, v2, ps, ln, pi, y, r, S, F) kx0 = kx0 (v1, v2, ps, ln, pi, addL y r, S, F) := by
  have hA := addL_len hr
  refine (impl_awarded.i11008_l1_for r.length (fun i x14 x4096 x4097 x4100 x4101 x4102 y0 y2 z3 z4 => (r.length : Int) = x14 ∧ v1 = x4096 ∧ v2 = x4097 ∧ ps = x4100 ∧ ln = x4101 ∧ pi = x4102 ∧ (addL y r).take i ++ y.drop i = y0 ∧ r = y2 ∧ S = z3 ∧ F = z4) (fun _ _ _ _ _ _ _ _ _ _ _ => kx0 (v1, v2, ps, ln, pi, addL y r, S, F)) ?_ k 0 _ _ _ _ _ _ _ _ _ _ (Nat.zero_le _) ⟨rfl, rfl, rfl, rfl, rfl, rfl, by simp, rfl, rfl, rfl⟩ (by omega))
  rintro i _ _ _ _ _ _ _ _ _ _ rec hi ⟨rfl, rfl, rfl, rfl, rfl, rfl, rfl, rfl, rfl, rfl⟩ hrec
  unfold impl_awarded.i11008_s1
  by_cases h' : i < r.length
  · have hy : i < y.length := by omega
    have hu := upd_len (l := addL y r) (m := y) (i := i) hA (by omega)
    have hg := upd_get (l := addL y r) (m := y) (i := i) hA hy (0 : Int)
    have hs := upd_step (l := addL y r) (m := y) (i := i) (by omega) hy
    rw [addL_get hy h'] at hs
    have e := hrec _ _ _ _ _ _ _ _ _ _ h' ⟨rfl, rfl, rfl, rfl, rfl, rfl, rfl, rfl, rfl, rfl⟩
    simp only [nn, ltD h', hu, ltD hy, Bool.and_self, Int.toNat_natCast, getD_lt h', hg, hs, decide_eq_true h', decide_eq_true hy, wrap_succ (show i < 2^62 by omega), cond_true, e]
  · have : i = r.length := by omega
    subst this
    have hd : (addL y r).take r.length ++ y.drop r.length = addL y r := by
      rw [List.take_of_length_le (by omega), List.drop_eq_nil_of_le (by omega), List.append_nil]
    have hlt : decide ((r.length : Int) < (r.length : Int)) = false := by simp
    simp only [hlt, cond_false, hd]

theorem i13004_eq {R : Type} {k : Nat} (K : 2^42 ≤ k) {y r : List Int} (hr : r.length = y.length) (hl : y.length ≤ 2^40) (v1 v2 : List Int) (ps : List (Int × ((List Int) × Unit))) (ln pi S F : Int) kx0 : impl_awarded.i13004_l1 (R := R) k k ((r.length : Int), 0, v1, v2, ps, ln, pi, y, r, S, F) kx0 = kx0 (v1, v2, ps, ln, pi, addL y r, S, F) := by
  have hA := addL_len hr
  refine (impl_awarded.i13004_l1_for r.length (fun i x14 x4096 x4097 x4100 x4101 x4102 y0 y2 z3 z4 => (r.length : Int) = x14 ∧ v1 = x4096 ∧ v2 = x4097 ∧ ps = x4100 ∧ ln = x4101 ∧ pi = x4102 ∧ (addL y r).take i ++ y.drop i = y0 ∧ r = y2 ∧ S = z3 ∧ F = z4) (fun _ _ _ _ _ _ _ _ _ _ _ => kx0 (v1, v2, ps, ln, pi, addL y r, S, F)) ?_ k 0 _ _ _ _ _ _ _ _ _ _ (Nat.zero_le _) ⟨rfl, rfl, rfl, rfl, rfl, rfl, by simp, rfl, rfl, rfl⟩ (by omega))
  rintro i _ _ _ _ _ _ _ _ _ _ rec hi ⟨rfl, rfl, rfl, rfl, rfl, rfl, rfl, rfl, rfl, rfl⟩ hrec
  unfold impl_awarded.i13004_s1
  by_cases h' : i < r.length
  · have hy : i < y.length := by omega
    have hu := upd_len (l := addL y r) (m := y) (i := i) hA (by omega)
    have hg := upd_get (l := addL y r) (m := y) (i := i) hA hy (0 : Int)
    have hs := upd_step (l := addL y r) (m := y) (i := i) (by omega) hy
    rw [addL_get hy h'] at hs
    have e := hrec _ _ _ _ _ _ _ _ _ _ h' ⟨rfl, rfl, rfl, rfl, rfl, rfl, rfl, rfl, rfl, rfl⟩
    simp only [nn, ltD h', hu, ltD hy, Bool.and_self, Int.toNat_natCast, getD_lt h', hg, hs, decide_eq_true h', decide_eq_true hy, wrap_succ (show i < 2^62 by omega), cond_true, e]
  · have : i = r.length := by omega
    subst this
    have hd : (addL y r).take r.length ++ y.drop r.length = addL y r := by
      rw [List.take_of_length_le (by omega), List.drop_eq_nil_of_le (by omega), List.append_nil]
    have hlt : decide ((r.length : Int) < (r.length : Int)) = false := by simp
    simp only [hlt, cond_false, hd]

theorem i15004_eq {R : Type} {k : Nat} (K : 2^42 ≤ k) {y r : List Int} (hr : r.length = y.length) (hl : y.length ≤ 2^40) (v1 v2 : List Int) (ps : List (Int × ((List Int) × Unit))) (ln pi S F : Int) kx0 : impl_awarded.i15004_l1 (R := R) k k ((r.length : Int), 0, v1, v2, ps, ln, pi, y, r, S, F) kx0 = kx0 (v1, v2, ps, ln, pi, addL y r, S, F) := by
  have hA := addL_len hr
  refine (impl_awarded.i15004_l1_for r.length (fun i x14 x4096 x4097 x4100 x4101 x4102 y0 y2 z3 z4 => (r.length : Int) = x14 ∧ v1 = x4096 ∧ v2 = x4097 ∧ ps = x4100 ∧ ln = x4101 ∧ pi = x4102 ∧ (addL y r).take i ++ y.drop i = y0 ∧ r = y2 ∧ S = z3 ∧ F = z4) (fun _ _ _ _ _ _ _ _ _ _ _ => kx0 (v1, v2, ps, ln, pi, addL y r, S, F)) ?_ k 0 _ _ _ _ _ _ _ _ _ _ (Nat.zero_le _) ⟨rfl, rfl, rfl, rfl, rfl, rfl, by simp, rfl, rfl, rfl⟩ (by omega))
  rintro i _ _ _ _ _ _ _ _ _ _ rec hi ⟨rfl, rfl, rfl, rfl, rfl, rfl, rfl, rfl, rfl, rfl⟩ hrec
  unfold impl_awarded.i15004_s1
  by_cases h' : i < r.length
  · have hy : i < y.length := by omega
    have hu := upd_len (l := addL y r) (m := y) (i := i) hA (by omega)
    have hg := upd_get (l := addL y r) (m := y) (i := i) hA hy (0 : Int)
    have hs := upd_step (l := addL y r) (m := y) (i := i) (by omega) hy
    rw [addL_get hy h'] at hs
    have e := hrec _ _ _ _ _ _ _ _ _ _ h' ⟨rfl, rfl, rfl, rfl, rfl, rfl, rfl, rfl, rfl, rfl⟩
    simp only [nn, ltD h', hu, ltD hy, Bool.and_self, Int.toNat_natCast, getD_lt h', hg, hs, decide_eq_true h', decide_eq_true hy, wrap_succ (show i < 2^62 by omega), cond_true, e]
  · have : i = r.length := by omega
    subst this
    have hd : (addL y r).take r.length ++ y.drop r.length = addL y r := by
      rw [List.take_of_length_le (by omega), List.drop_eq_nil_of_le (by omega), List.append_nil]
    have hlt : decide ((r.length : Int) < (r.length : Int)) = false := by simp
    simp only [hlt, cond_false, hd]

theorem i8005_eq {R : Type} {k : Nat} (K : 2^42 ≤ k) {y r : List Int} (hr : r.length = y.length) (hl : y.length ≤ 2^40) (v1 v2 : List Int) (ps : List (Int × ((List Int) × Unit))) (ln pi S F : Int) kx0 : impl_awarded.i8005_l1 (R := R) k k ((r.length : Int), 0, v1, v2, ps, ln, pi, y, r, S, F) kx0 = kx0 (v1, v2, ps, ln, pi, addL y r, S, F) := by
  have hA := addL_len hr
  refine (impl_awarded.i8005_l1_for r.length (fun i x14 x4096 x4097 x4100 x4101 x4102 y0 y2 z3 z4 => (r.length : Int) = x14 ∧ v1 = x4096 ∧ v2 = x4097 ∧ ps = x4100 ∧ ln = x4101 ∧ pi = x4102 ∧ (addL y r).take i ++ y.drop i = y0 ∧ r = y2 ∧ S = z3 ∧ F = z4) (fun _ _ _ _ _ _ _ _ _ _ _ => kx0 (v1, v2, ps, ln, pi, addL y r, S, F)) ?_ k 0 _ _ _ _ _ _ _ _ _ _ (Nat.zero_le _) ⟨rfl, rfl, rfl, rfl, rfl, rfl, by simp, rfl, rfl, rfl⟩ (by omega))
  rintro i _ _ _ _ _ _ _ _ _ _ rec hi ⟨rfl, rfl, rfl, rfl, rfl, rfl, rfl, rfl, rfl, rfl⟩ hrec
  unfold impl_awarded.i8005_s1
  by_cases h' : i < r.length
  · have hy : i < y.length := by omega
    have hu := upd_len (l := addL y r) (m := y) (i := i) hA (by omega)
    have hg := upd_get (l := addL y r) (m := y) (i := i) hA hy (0 : Int)
    have hs := upd_step (l := addL y r) (m := y) (i := i) (by omega) hy
    rw [addL_get hy h'] at hs
    have e := hrec _ _ _ _ _ _ _ _ _ _ h' ⟨rfl, rfl, rfl, rfl, rfl, rfl, rfl, rfl, rfl, rfl⟩
    simp only [nn, ltD h', hu, ltD hy, Bool.and_self, Int.toNat_natCast, getD_lt h', hg, hs, decide_eq_true h', decide_eq_true hy, wrap_succ (show i < 2^62 by omega), cond_true, e]
  · have : i = r.length := by omega
    subst this
    have hd : (addL y r).take r.length ++ y.drop r.length = addL y r := by
      rw [List.take_of_length_le (by omega), List.drop_eq_nil_of_le (by omega), List.append_nil]
    have hlt : decide ((r.length : Int) < (r.length : Int)) = false := by simp
    simp only [hlt, cond_false, hd]

theorem l13Add_eq {k : Nat} (K : 2^42 ≤ k) {y r : List Int} (hr : r.length = y.length) (hl : y.length ≤ 2^40) : spec_l13Add.f k y r = some ((addL y r, ()), ()) := by
  unfold spec_l13Add.f
  have hA := addL_len hr
  refine (spec_l13Add.l3_for y.length (fun i x0 x1 y0 => y = x0 ∧ r = x1 ∧ (addL y r).take i = y0) (fun _ _ _ _ => some ((addL y r, ()), ())) ?_ k 0 _ _ _ (Nat.zero_le _) ⟨rfl, rfl, rfl⟩ (by omega))
  rintro i _ _ _ rec hi ⟨rfl, rfl, rfl⟩ hrec
  unfold spec_l13Add.s3
  by_cases h : i < y.length
  · have h2 : i < r.length := by omega
    have hs := take_snoc (l := addL y r) (i := i) (by omega)
    rw [addL_get h h2] at hs
    have e := hrec _ _ _ h ⟨rfl, rfl, rfl⟩
    have hm : decide ((((addL y r).take i).length + 1) * 8 ≤ AM.maxBytes) = true := room (by simp; omega) (by omega)
    simp only [nn, ltD h, ltD h2, Bool.and_self, Int.toNat_natCast, getD_lt h, getD_lt h2, List.length_singleton, hm, hs, wrap_succ (show i < 2^62 by omega), cond_true, e]
  · have : i = y.length := by omega
    subst this
    have hd : (addL y r).take y.length = addL y r := List.take_of_length_le (by omega)
    have hlt : decide ((y.length : Int) < (y.length : Int)) = false := by simp
    simp only [hlt, cond_false, hd]

/-- One pot's shares as the reference has them. -/
def awardL (a : Int) (w v1 v2 : List Int) (S F : Nat) : List Int :=
  if 0 < (bestL true v1 w).length then (if 0 < (bestL false v2 w).length then addL (splitL (bestL true v1 w) S F (a - a.tdiv 2)) (splitL (bestL false v2 w) S F (a.tdiv 2)) else splitL (bestL true v1 w) S F a)
  else if 0 < (bestL false v2 w).length then splitL (bestL false v2 w) S F a else splitL w S F a

/-- A pot's shares added to what is awarded, as the program does it. -/
def awStep (v1 v2 : List Int) (S F : Nat) (y : List Int) (p : Int × List Int × Unit) : List Int :=
  if 0 < (bestL true v1 p.2.1).length ∧ 0 < (bestL false v2 p.2.1).length then addL (addL y (splitL (bestL false v2 p.2.1) S F (p.1.tdiv 2))) (splitL (bestL true v1 p.2.1) S F (p.1 - p.1.tdiv 2)) else addL y (awardL p.1 p.2.1 v1 v2 S F)

theorem splitL_len (w : List Int) (S F : Nat) (a : Int) : (splitL w S F a).length = S := spRun_len w S F a S

theorem awardL_len (a : Int) (w v1 v2 : List Int) (S F : Nat) : (awardL a w v1 v2 S F).length = S := by
  unfold awardL
  split
  · split
    · rw [addL_len (by rw [splitL_len, splitL_len]), splitL_len]
    · exact splitL_len _ _ _ _
  · split <;> exact splitL_len _ _ _ _

def awRun (ps : List (Int × List Int × Unit)) (v1 v2 : List Int) (S F i : Nat) : List Int := (ps.take i).foldl (awStep v1 v2 S F) (List.replicate S 0)

theorem awStep_len {v1 v2 : List Int} {S F : Nat} {y : List Int} (h : y.length = S) (p : Int × List Int × Unit) : (awStep v1 v2 S F y p).length = S := by
  unfold awStep
  split
  · rw [addL_len (by rw [splitL_len, addL_len (by rw [splitL_len, h]), h]), addL_len (by rw [splitL_len, h]), h]
  · rw [addL_len (by rw [awardL_len, h]), h]

theorem awRun_succ {ps : List (Int × List Int × Unit)} {v1 v2 : List Int} {S F i : Nat} (h : i < ps.length) : awRun ps v1 v2 S F (i + 1) = awStep v1 v2 S F (awRun ps v1 v2 S F i) ps[i] := by
  unfold awRun; rw [← List.take_append_getElem h, List.foldl_append]; rfl

theorem awRun_len (ps : List (Int × List Int × Unit)) (v1 v2 : List Int) (S F : Nat) : ∀ i, (awRun ps v1 v2 S F i).length = S
  | 0 => by simp [awRun]
  | i + 1 => by
    by_cases h : i < ps.length
    · rw [awRun_succ h]; exact awStep_len (awRun_len ps v1 v2 S F i) _
    · have e : ps.take (i + 1) = ps.take i := by rw [List.take_of_length_le (by omega), List.take_of_length_le (by omega)]
      have := awRun_len ps v1 v2 S F i
      unfold awRun at *
      rw [e]; exact this

/-- The pots are as asked. -/
def potsB (ps : List (Int × List Int × Unit)) (n : Int) : Bool := ps.all fun p => wins p.2.1 n && inB 0 600000 p.1

theorem bestL_len (hi : Bool) (v w : List Int) : (bestL hi v w).length ≤ w.length := bestRun_len hi v w w.length

theorem half {a : Int} (h0 : 0 ≤ a) : 0 ≤ a.tdiv 2 ∧ a.tdiv 2 ≤ a := ⟨Int.tdiv_nonneg h0 (by omega), Int.tdiv_le_self _ h0⟩

theorem gt0 {n : Nat} (h : 0 < n) : decide ((n : Int) > 0) = true := by simp; omega

theorem not_gt0 {n : Nat} (h : ¬ 0 < n) : decide ((n : Int) > 0) = false := by simp; omega

theorem two0 : decide ((2 : Int) = 0) = false := by decide

theorem sAward_eq {k : Nat} (K : 2^42 ≤ k) {a : Int} {w v1 v2 : List Int} (hw : wins w v1.length = true) (hl : w.length ≤ 2^40) (ha : inB 0 600000 a = true) (h12 : v2.length = v1.length) (hS : 0 < v1.length) (hS' : v1.length ≤ 2^20) {F : Nat} (hF : F < 2^40) :
    spec_l13Award.f k (a, w, ()) v1 v2 (F : Int) = some ((awardL a w v1 v2 v1.length F, ()), ()) := by
  unfold spec_l13Award.f awardL
  have ha' := inB_iff.1 ha
  have hh := half ha'.1
  have hall := wins_all hw
  have hb1 := bestL_len true v1 w
  have hb2 := bestL_len false v2 w
  have w1 : IntKind.wrap .i64 (a.tdiv 2) = a.tdiv 2 := wrap_id (by omega) (by omega)
  have w2 : IntKind.wrap .i64 (a - a.tdiv 2) = a - a.tdiv 2 := wrap_id (by omega) (by omega)
  simp only [sBest_eq K hl hall, sBest_eq K hl (vals := v2) (by rw [h12]; exact hall), Option.bind_some, two0, Bool.not_false, cond_true, w1, w2]
  by_cases c1 : 0 < (bestL true v1 w).length
  · by_cases c2 : 0 < (bestL false v2 w).length
    · simp only [gt0 c1, gt0 c2, cond_true, if_pos c1, if_pos c2, sSplit_eq K (show (bestL true v1 w).length ≤ 2^40 by omega) c1 (show 0 ≤ a - a.tdiv 2 by omega) (show a - a.tdiv 2 ≤ 2^40 by omega) hS hS' hF, sSplit_eq K (show (bestL false v2 w).length ≤ 2^40 by omega) c2 hh.1 (show a.tdiv 2 ≤ 2^40 by omega) hS hS' hF, Option.bind_some, l13Add_eq K (show (splitL (bestL false v2 w) v1.length F (a.tdiv 2)).length = (splitL (bestL true v1 w) v1.length F (a - a.tdiv 2)).length by rw [splitL_len, splitL_len]) (by rw [splitL_len]; omega)]
    · simp only [gt0 c1, not_gt0 c2, cond_true, cond_false, if_pos c1, if_neg c2, sSplit_eq K (show (bestL true v1 w).length ≤ 2^40 by omega) c1 ha'.1 (show a ≤ 2^40 by omega) hS hS' hF, Option.bind_some]
  · by_cases c2 : 0 < (bestL false v2 w).length
    · simp only [not_gt0 c1, gt0 c2, cond_true, cond_false, if_neg c1, if_pos c2, sSplit_eq K (show (bestL false v2 w).length ≤ 2^40 by omega) c2 ha'.1 (show a ≤ 2^40 by omega) hS hS' hF, Option.bind_some]
    · simp only [not_gt0 c1, not_gt0 c2, cond_false, if_neg c1, if_neg c2, sSplit_eq K hl (wins_pos hw) ha'.1 (show a ≤ 2^40 by omega) hS hS' hF, Option.bind_some]

theorem iAwarded_eq {k : Nat} (K : 2^42 ≤ k) {ps : List (Int × List Int × Unit)} {v1 v2 : List Int} (hps : potsB ps v1.length = true) (hpl : ps.length ≤ 2^40) (hwl : ∀ p ∈ ps, p.2.1.length ≤ 2^40) (h12 : v2.length = v1.length) (hS : 0 < v1.length) (hS' : v1.length ≤ 2^20) {F : Nat} (hF : F < 2^40) :
    impl_awarded.f k ps v1 v2 (F : Int) = some ((awRun ps v1 v2 v1.length F ps.length, ()), ()) := by
  unfold impl_awarded.f
  have hm : decide ((v1.length : Int) * ((8 : Nat) : Int) ≤ (AM.maxBytes : Int)) = true := by unfold AM.maxBytes; simp; omega
  simp only [nn, Int.le_refl, decide_true, hm, Bool.and_self, cond_true, Int.toNat_natCast]
  refine impl_awarded.l5_fix (fun v => ∃ i, i ≤ ps.length ∧ v = (v1, v2, ps, (ps.length : Int), (i : Int), awRun ps v1 v2 v1.length F i, (v1.length : Int), (F : Int))) (fun v => ps.length - v.2.2.2.2.1.toNat) (fun _ => some ((awRun ps v1 v2 v1.length F ps.length, ()), ())) ?_ k _ ⟨0, Nat.zero_le _, rfl⟩ (by simp; omega)
  rintro _ rec ⟨i, hi, rfl⟩ hrec
  unfold impl_awarded.s5
  by_cases h : i < ps.length
  · have e := hrec (v1, v2, ps, (ps.length : Int), ((i : Int) + 1), awRun ps v1 v2 v1.length F (i + 1), (v1.length : Int), (F : Int)) ⟨i + 1, h, rfl⟩ (by simp only [Int.toNat_natCast]; omega)
    rw [awRun_succ h] at e
    have hy := awRun_len ps v1 v2 v1.length F i
    have hp := List.all_eq_true.1 hps ps[i] (List.getElem_mem h)
    have hwl' := hwl ps[i] (List.getElem_mem h)
    simp only [nn, ltD h, Bool.and_self, Int.toNat_natCast, getD_lt h, wrap_succ (show i < 2^62 by omega), cond_true, Bool.and_eq_true] at hp ⊢
    generalize awRun ps v1 v2 v1.length F i = y at *
    obtain ⟨⟨a, w, u⟩, hpe⟩ : ∃ p, ps[i] = p := ⟨_, rfl⟩
    simp only [hpe] at e hp hwl' ⊢
    have ha' := inB_iff.1 hp.2
    have hh := half ha'.1
    have hall := wins_all hp.1
    have hb1 := bestL_len true v1 w
    have hb2 := bestL_len false v2 w
    have w1 : IntKind.wrap .i64 (a.tdiv 2) = a.tdiv 2 := wrap_id (by omega) (by omega)
    have w2 : IntKind.wrap .i64 (a - a.tdiv 2) = a - a.tdiv 2 := wrap_id (by omega) (by omega)
    have hyl : y.length ≤ 2^40 := by omega
    simp only [iHigh_eq K hwl' hall, iLow_eq K hwl' (vals := v2) (by rw [h12]; exact hall), Option.bind_some, two0, Bool.not_false, cond_true, w1, w2]
    unfold awStep awardL at e
    by_cases c1 : 0 < (bestL true v1 w).length
    · by_cases c2 : 0 < (bestL false v2 w).length
      · rw [if_pos ⟨c1, c2⟩] at e
        simp only [gt0 c1, gt0 c2, cond_true, iSplit_eq K (show (bestL false v2 w).length ≤ 2^40 by omega) c2 hh.1 (show a.tdiv 2 ≤ 2^40 by omega) hS hS' hF, Option.bind_some, i10005_eq K (show (splitL (bestL false v2 w) v1.length F (a.tdiv 2)).length = y.length by rw [splitL_len]; omega) hyl]
        simp only [w1, w2, iSplit_eq K (show (bestL true v1 w).length ≤ 2^40 by omega) c1 (show 0 ≤ a - a.tdiv 2 by omega) (show a - a.tdiv 2 ≤ 2^40 by omega) hS hS' hF, Option.bind_some]
        rw [i11008_eq K (by rw [splitL_len, addL_len (by rw [splitL_len]; omega)]; omega) (by rw [addL_len (by rw [splitL_len]; omega)]; omega)]
        simp only [wrap_succ (show i < 2^62 by omega), e]
      · rw [if_neg (fun h => c2 h.2), if_pos c1, if_neg c2] at e
        simp only [gt0 c1, not_gt0 c2, cond_true, cond_false, iSplit_eq K (show (bestL true v1 w).length ≤ 2^40 by omega) c1 ha'.1 (show a ≤ 2^40 by omega) hS hS' hF, Option.bind_some, i13004_eq K (show (splitL (bestL true v1 w) v1.length F a).length = y.length by rw [splitL_len]; omega) hyl, wrap_succ (show i < 2^62 by omega), e]
    · rw [if_neg (fun h => c1 h.1), if_neg c1] at e
      by_cases c2 : 0 < (bestL false v2 w).length
      · rw [if_pos c2] at e
        simp only [not_gt0 c1, gt0 c2, cond_true, cond_false, iSplit_eq K (show (bestL false v2 w).length ≤ 2^40 by omega) c2 ha'.1 (show a ≤ 2^40 by omega) hS hS' hF, Option.bind_some, i15004_eq K (show (splitL (bestL false v2 w) v1.length F a).length = y.length by rw [splitL_len]; omega) hyl, wrap_succ (show i < 2^62 by omega), e]
      · rw [if_neg c2] at e
        simp only [not_gt0 c1, not_gt0 c2, cond_false, iSplit_eq K hwl' (wins_pos hp.1) ha'.1 (show a ≤ 2^40 by omega) hS hS' hF, Option.bind_some, i8005_eq K (show (splitL w v1.length F a).length = y.length by rw [splitL_len]; omega) hyl, wrap_succ (show i < 2^62 by omega), e]
  · have : i = ps.length := by omega
    subst this
    have hlt : decide ((ps.length : Int) < (ps.length : Int)) = false := by simp
    simp only [hlt, cond_false]

/-- The code of pots, values and a first seat. -/
def potCode (ps : List (Int × List Int × Unit)) (v1 v2 : List Int) (f : Int) : Int :=
  if inB 2 6 v1.length = true then (if potsB ps v1.length = true then (if valsB v1 = true ∧ v2.length = v1.length ∧ valsB v2 = true ∧ inB 0 ((v1.length : Int) - 1) f = true then 0 else 2) else 1) else 2

theorem l13Pots_eq {k : Nat} (K : 2^42 ≤ k) {ps : List (Int × List Int × Unit)} {v1 v2 : List Int} (f : Int) (hpl : ps.length ≤ 2^40) (hwl : ∀ p ∈ ps, p.2.1.length ≤ 2^40) (h1 : v1.length ≤ 2^40) (h2 : v2.length ≤ 2^40) :
    spec_l13Pots.f k ps v1 v2 f = some ((potCode ps v1 v2 f, ()), ()) := by
  unfold spec_l13Pots.f spec_l13Seats.f potCode
  simp only [l01In_eq, Option.bind_some]
  cases hn : inB 2 6 (v1.length : Int) with
  | false => simp
  | true =>
    have hn' := inB_iff.1 hn
    simp only [Bool.not_true, cond_false, if_true]
    refine (spec_l13Pots.l5_for ps.length (fun i x0 x1 x2 x3 x9 => ps = x0 ∧ v1 = x1 ∧ v2 = x2 ∧ f = x3 ∧ (v1.length : Int) = x9) (fun i _ _ _ _ _ => some (((if potsB (ps.drop i) v1.length = true then (if valsB v1 = true ∧ v2.length = v1.length ∧ valsB v2 = true ∧ inB 0 ((v1.length : Int) - 1) f = true then 0 else 2) else 1), ()), ())) ?_ k 0 _ _ _ _ _ (Nat.zero_le _) ⟨rfl, rfl, rfl, rfl, rfl⟩ (by omega))
    rintro i _ _ _ _ _ rec hi ⟨rfl, rfl, rfl, rfl, rfl⟩ hrec
    unfold spec_l13Pots.s5 potsB
    by_cases h : i < ps.length
    · have hwl' := hwl ps[i] (List.getElem_mem h)
      have e := hrec _ _ _ _ _ h ⟨rfl, rfl, rfl, rfl, rfl⟩
      unfold potsB at e
      unfold spec_l13Amount.f
      simp only [nn, ltD h, Bool.and_self, Int.toNat_natCast, getD_lt h, wrap_succ (show i < 2^62 by omega), cond_true, all_drop h, l13Winners_eq K hwl' (show (0 : Int) ≤ v1.length by omega) (show (v1.length : Int) ≤ 2^40 by omega), l01In_eq, Option.bind_some, e]
      cases wins ps[i].2.1 (v1.length : Int) <;> cases inB 0 600000 ps[i].1 <;> rfl
    · have : i = ps.length := by omega
      subst this
      have hlt : decide ((ps.length : Int) < (ps.length : Int)) = false := by simp
      have w1 : IntKind.wrap .i64 ((v1.length : Int) - 1) = (v1.length : Int) - 1 := wrap_id (by omega) (by omega)
      have ee : ((v2.length : Int) == (v1.length : Int)) = decide (v2.length = v1.length) := by
        by_cases c : v2.length = v1.length
        · simp [c]
        · simp [c]; omega
      simp only [hlt, cond_false, List.drop_length, List.all_nil, if_true, l13Values_eq K h1, l13Values_eq K h2, l01In_eq, Option.bind_some, w1, beq_self_eq_true, Bool.and_true, ee]
      cases valsB v1 <;> cases valsB v2 <;> cases inB 0 ((v1.length : Int) - 1) f <;> by_cases c : v2.length = v1.length <;> simp [c]

/-- What AwardPots returns for at most six pots. -/
def AwR (ps : List (Int × List Int × Unit)) (v1 v2 : List Int) (f : Int) : List Int × Int :=
  if potCode ps v1 v2 f = 0 then (awRun ps v1 v2 v1.length f.toNat ps.length, 0) else ([], potCode ps v1 v2 f)

theorem potCode_zero {ps : List (Int × List Int × Unit)} {v1 v2 : List Int} {f : Int} (h : potCode ps v1 v2 f = 0) : inB 2 6 v1.length = true ∧ potsB ps v1.length = true ∧ v2.length = v1.length ∧ inB 0 ((v1.length : Int) - 1) f = true := by
  unfold potCode at h
  split at h
  · split at h
    · split at h
      · rename_i a b c
        exact ⟨a, b, c.2.1, c.2.2.2⟩
      · omega
    · omega
  · omega

theorem iAwardPots_eq {k : Nat} (K : 2^42 ≤ k) {ps : List (Int × List Int × Unit)} {v1 v2 : List Int} (f : Int) (hpl : ps.length ≤ 6) (hwl : ∀ p ∈ ps, p.2.1.length ≤ 2^40) (h1 : v1.length ≤ 2^40) (h2 : v2.length ≤ 2^40) :
    impl_AwardPots.f k ps v1 v2 f = some (((AwR ps v1 v2 f).1, (AwR ps v1 v2 f).2, ()), ()) := by
  unfold impl_AwardPots.f AwR
  have h6 : decide ((ps.length : Int) > 6) = false := by simp; omega
  simp only [within_eq, Option.bind_some, h6, cond_false]
  cases hn : inB 2 6 (v1.length : Int) with
  | false => simp [potCode, hn]
  | true =>
    have hn' := inB_iff.1 hn
    simp only [Bool.not_true, cond_false]
    refine (impl_AwardPots.l7_for ps.length (fun i x0 x1 x2 x3 x10 x23 x24 => ps = x0 ∧ v1 = x1 ∧ v2 = x2 ∧ f = x3 ∧ (v1.length : Int) = x10 ∧ ps = x23 ∧ (ps.length : Int) = x24 ∧ potsB (ps.take i) v1.length = true) (fun i _ _ _ _ _ _ _ => some ((((if potCode ps v1 v2 f = 0 then (awRun ps v1 v2 v1.length f.toNat ps.length, (0 : Int)) else ([], potCode ps v1 v2 f))).1, ((if potCode ps v1 v2 f = 0 then (awRun ps v1 v2 v1.length f.toNat ps.length, (0 : Int)) else ([], potCode ps v1 v2 f))).2, ()), ())) ?_ k 0 _ _ _ _ _ _ _ (Nat.zero_le _) ⟨rfl, rfl, rfl, rfl, rfl, rfl, rfl, by simp [potsB]⟩ (by omega))
    rintro i _ _ _ _ _ _ _ rec hi ⟨rfl, rfl, rfl, rfl, rfl, rfl, rfl, hq⟩ hrec
    unfold impl_AwardPots.s7
    by_cases h : i < ps.length
    · have hwl' := hwl ps[i] (List.getElem_mem h)
      simp only [nn, ltD h, Bool.and_self, Int.toNat_natCast, getD_lt h, wrap_succ (show i < 2^62 by omega), cond_true, areWinners_eq K hwl' (show (0 : Int) ≤ v1.length by omega) (show (v1.length : Int) ≤ 2^40 by omega), within_eq, Option.bind_some]
      by_cases c : (wins ps[i].2.1 (v1.length : Int) && inB 0 600000 ps[i].1) = true
      · have c' := c
        simp only [Bool.and_eq_true] at c
        have hq' : potsB (ps.take (i + 1)) v1.length = true := by
          unfold potsB at *
          rw [← List.take_append_getElem h, List.all_append, hq, List.all_cons, List.all_nil, c']; rfl
        rw [hrec _ _ _ _ _ _ _ h ⟨rfl, rfl, rfl, rfl, rfl, rfl, rfl, hq'⟩]
        simp only [c.1, c.2, Bool.not_true, cond_false]
      · have hbad : potsB ps v1.length = false := by
          rw [Bool.eq_false_iff]
          intro hall
          exact c (List.all_eq_true.1 hall ps[i] (List.getElem_mem h))
        have hc1 : potCode ps v1 v2 f = 1 := by simp [potCode, hn, hbad]
        cases d1 : wins ps[i].2.1 (v1.length : Int) <;> cases d2 : inB 0 600000 ps[i].1 <;> simp_all
    · have : i = ps.length := by omega
      subst this
      rw [List.take_length] at hq
      have hlt : decide ((ps.length : Int) < (ps.length : Int)) = false := by simp
      have w1 : IntKind.wrap .i64 ((v1.length : Int) - 1) = (v1.length : Int) - 1 := wrap_id (by omega) (by omega)
      simp only [hlt, cond_false, areValues_eq K h1, areValues_eq K h2, within_eq, Option.bind_some, w1]
      by_cases c : v2.length = v1.length
      · have cb : ((v2.length : Int) != (v1.length : Int)) = false := by simp [c]
        simp only [cb, cond_false]
        cases d1 : inB 0 ((v1.length : Int) - 1) f with
        | false => simp [potCode, hn, hq, c, d1]
        | true =>
          have hf := inB_iff.1 d1
          obtain ⟨F, rfl⟩ := Int.eq_ofNat_of_zero_le hf.1
          simp only [Bool.not_true, cond_false]
          cases d2 : valsB v1 with
          | false => simp [potCode, hn, hq, c, d1, d2]
          | true =>
            cases d3 : valsB v2 with
            | false => simp [potCode, hn, hq, c, d1, d2, d3]
            | true =>
              have hz : potCode ps v1 v2 (F : Int) = 0 := by simp [potCode, hn, hq, c, d2, d3]; exact d1
              simp only [Bool.not_true, cond_false, iAwarded_eq K hq (by omega) hwl c (by omega) (by omega) (show F < 2^40 by omega), Option.bind_some, hz, if_true, Int.toNat_natCast]
      · have cb : ((v2.length : Int) != (v1.length : Int)) = true := by simp only [bne_iff_ne]; omega
        have hz : potCode ps v1 v2 f = 2 := by simp [potCode, hn, hq, c]
        simp only [cb, cond_true, hz]
        cases inB 0 ((v1.length : Int) - 1) f <;> simp

theorem spRun_in (w : List Int) (S F : Nat) {a : Int} (h0 : 0 ≤ a) : ∀ i, ∀ x ∈ (spRun w S F a i).2, 0 ≤ x ∧ x ≤ a + 1
  | 0 => by
    intro x hx
    simp only [spRun, List.range_zero, List.foldl_nil] at hx
    have := List.eq_of_mem_replicate hx
    omega
  | i + 1 => by
    have ih := spRun_in w S F h0 i
    have hd := div_le (n := w.length) h0
    intro x hx
    rw [spRun_succ] at hx
    unfold spStep at hx
    split at hx
    · split at hx
      · rcases List.mem_or_eq_of_mem_set hx with h | h
        · exact ih x h
        · omega
      · rcases List.mem_or_eq_of_mem_set hx with h | h
        · exact ih x h
        · omega
    · exact ih x hx

theorem wrap_wrap (x : Int) : -9223372036854775808 ≤ IntKind.wrap .i64 x ∧ IntKind.wrap .i64 x < 9223372036854775808 := by
  unfold IntKind.wrap
  simp only [IntKind.signed, IntKind.bits, Bool.true_and]
  split
  · rename_i h; have := of_decide_eq_true h; omega
  · rename_i h; have := of_decide_eq_false (Bool.not_eq_true _ ▸ h); omega

theorem addL_in (a b : List Int) : ∀ x ∈ addL a b, -9223372036854775808 ≤ x ∧ x < 9223372036854775808 := by
  intro x hx
  unfold addL at hx
  rw [List.mem_iff_getElem] at hx
  obtain ⟨i, hi, rfl⟩ := hx
  rw [List.getElem_zipWith]
  exact wrap_wrap _

theorem splitL_in {w : List Int} {S F : Nat} {a : Int} (h0 : 0 ≤ a) (h1 : a ≤ 600000) : ∀ x ∈ splitL w S F a, -9223372036854775808 ≤ x ∧ x < 9223372036854775808 := by
  intro x hx
  have := spRun_in w S F h0 S x hx
  omega

theorem awardL_in {w v1 v2 : List Int} {S F : Nat} {a : Int} (h0 : 0 ≤ a) (h1 : a ≤ 600000) : ∀ x ∈ awardL a w v1 v2 S F, -9223372036854775808 ≤ x ∧ x < 9223372036854775808 := by
  unfold awardL
  split
  · split
    · exact addL_in _ _
    · exact splitL_in h0 h1
  · split <;> exact splitL_in h0 h1

theorem awRun_one {a : Int} (h0 : 0 ≤ a) (h1 : a ≤ 600000) (w v1 v2 : List Int) (S F : Nat) : awRun [(a, w, ())] v1 v2 S F 1 = awardL a w v1 v2 S F := by
  have hh := half h0
  unfold awRun
  simp only [List.take_succ_cons, List.take_zero, List.foldl_cons, List.foldl_nil]
  unfold awStep
  split
  · rename_i c
    unfold awardL
    simp only at c
    rw [if_pos c.1, if_pos c.2, addL_zero (splitL_len _ _ _ _) (splitL_in hh.1 (by omega)), addL_comm]
  · exact addL_zero (awardL_len _ _ _ _ _ _) (awardL_in h0 h1)

theorem sAwardPot_eq {k : Nat} (K : 2^42 ≤ k) {a : Int} {w v1 v2 : List Int} (f : Int) (hw : w.length ≤ 2^40) (h1 : v1.length ≤ 2^40) (h2 : v2.length ≤ 2^40) :
    spec_AwardPot.f k (a, w, ()) v1 v2 f = some (((AwR [(a, w, ())] v1 v2 f).1, (AwR [(a, w, ())] v1 v2 f).2, ()), ()) := by
  unfold spec_AwardPot.f AwR
  simp only [l13Pots_eq K f (show [(a, w, ())].length ≤ 2^40 by simp) (by simpa using hw) h1 h2, Option.bind_some]
  by_cases c : potCode [(a, w, ())] v1 v2 f = 0
  · obtain ⟨c1, c2, c3, c4⟩ := potCode_zero c
    have hn := inB_iff.1 c1
    have hf := inB_iff.1 c4
    obtain ⟨F, rfl⟩ := Int.eq_ofNat_of_zero_le hf.1
    have hp := List.all_eq_true.1 c2 _ (List.mem_singleton.2 rfl)
    simp only [Bool.and_eq_true] at hp
    have ha := inB_iff.1 hp.2
    have e := sAward_eq K hp.1 hw hp.2 c3 (by omega) (by omega) (F := F) (by omega)
    simp only [c, bne_self_eq_false, cond_false, if_true]
    rw [e]
    simp only [Option.bind_some, List.length_singleton, Int.toNat_natCast, awRun_one ha.1 ha.2]
  · have cb : (potCode [(a, w, ())] v1 v2 f != 0) = true := by simp [c]
    simp only [cb, cond_true, if_neg c]

theorem iAwardPot_eq {k : Nat} (K : 2^42 ≤ k) {a : Int} {w v1 v2 : List Int} (f : Int) (hw : w.length ≤ 2^40) (h1 : v1.length ≤ 2^40) (h2 : v2.length ≤ 2^40) :
    impl_AwardPot.f k (a, w, ()) v1 v2 f = some (((AwR [(a, w, ())] v1 v2 f).1, (AwR [(a, w, ())] v1 v2 f).2, ()), ()) := by
  unfold impl_AwardPot.f
  simp only [iAwardPots_eq K f (show [(a, w, ())].length ≤ 6 by simp) (by simpa using hw) h1 h2, Option.bind_some]

theorem AwR_len (ps : List (Int × List Int × Unit)) (v1 v2 : List Int) (f : Int) (h : v1.length ≤ 2^40) : (AwR ps v1 v2 f).1.length ≤ 2^40 := by
  unfold AwR
  split
  · rw [awRun_len]; exact h
  · simp

theorem szInt64S_eq {k : Nat} {l : List Int} (hl : l.length ≤ 2^63 - 1) : laws_szInt64S.f k l 1048576 = some ((if l.length ≤ 1048576 then 1048576 - (l.length : Int) else -1, ()), ()) := by
  unfold laws_szInt64S.f
  have : IntKind.wrap .i64 (1048576 - (l.length : Int)) = 1048576 - (l.length : Int) := wrap_id (by omega) (by omega)
  rw [this]
  by_cases c : l.length ≤ 1048576
  · rw [decide_eq_false (by omega), if_pos c]; rfl
  · rw [decide_eq_true (by omega), if_neg c]; rfl

theorem FnExactAwardPot_ok (a0 : Int × List Int × Unit) (a1 a2 : List Int) (a3 : Int) {P Q U : Prop} (w0 : P ∧ (List.length a0.2.1 ≤ 2^63 - 1 ∧ Q) ∧ U) : laws_FnExactAwardPot.f (2^42) a0 a1 a2 a3 = some ((true, ()), ()) := by
  unfold laws_FnExactAwardPot.f
  simp only [long]
  by_cases h1 : 1048576 < a1.length
  · simp [h1]
  by_cases h2 : 1048576 < a2.length
  · simp [h1, h2]
  obtain ⟨a, w, u⟩ := a0
  have hw0 := w0.2.1.1
  simp only at hw0
  have K : 2^42 ≤ 2^42 := Nat.le_refl _
  unfold laws_szPot.f laws_toPot.f laws_eqPot.f
  simp only [h1, h2, decide_false, cond_false, szInt64S_eq hw0, Option.bind_some]
  by_cases h3 : 1048576 < w.length
  · have : ¬ w.length ≤ 1048576 := by omega
    simp [if_neg this]
  have h3 : w.length ≤ 1048576 := by omega
  have hn0 : decide ((1048576 : Int) - (w.length : Int) < 0) = false := by simp; omega
  have hl : w.length ≤ 2^40 := by omega
  have hl1 : a1.length ≤ 2^40 := by omega
  have hl2 : a2.length ≤ 2^40 := by omega
  have hr := AwR_len [(a, w, ())] a1 a2 a3 hl1
  have e1 := markInt64S_eq K hl (a := 1) (by omega) (by omega)
  have e2 := markInt64S_eq K hl1 (a := 1 + w.length) (by omega) (by omega)
  have e2' := markInt64S_eq K hl2 (a := 1 + w.length + a1.length) (by omega) (by omega)
  have e3 := markInt64S_eq K hr (a := 1) (by omega) (by omega)
  have e4 := heldInt64S_eq K hr (a := 1) (by omega) (by omega)
  have n1 : decide ((1 : Int) + w.length + a1.length + a2.length < 0) = false := by simp; omega
  have n2 : decide ((1 : Int) + (AwR [(a, w, ())] a1 a2 a3).1.length < 0) = false := by simp; omega
  simp only [if_pos h3, hn0, toInt64S_eq K hl, toInt64S_eq K hl1, toInt64S_eq K hl2, sAwardPot_eq K a3 hl hl1 hl2, iAwardPot_eq K a3 hl hl1 hl2, eqInt64S_eq K hl, eqInt64S_eq K hl1, eqInt64S_eq K hl2, eqInt64S_eq K hr, e1, e2, e2', e3, e4, n1, n2, Option.bind_some, decide_false, cond_false, beq_self_eq_true, Bool.not_true, bne_self_eq_false]
end Go.Sh
