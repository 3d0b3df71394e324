/- What the Lean functions compute, in plain lists and numbers; conditions stand in each lemma. -/
import Derived.Test.YtdfpkmdnoncliaaSFnExactSplitChips0
set_option linter.unusedVariables false
set_option linter.unusedSimpArgs false
namespace Go.Sh
open Go
theorem l01In_eq (k : Nat) (a lo hi : Int) : spec_l01In.f k a lo hi = some ((inB lo hi a, ()), ()) := by
  unfold spec_l01In.f inB
  by_cases h : lo ≤ a <;> simp [h]

theorem within_eq (k : Nat) (a lo hi : Int) : impl_within.f k a lo hi = some ((inB lo hi a, ()), ()) := by
  unfold impl_within.f inB
  by_cases h : lo ≤ a <;> simp [h]

attribute [simp] l01In_eq within_eq

theorem allWithin_eq {k : Nat} (K : 2^42 ≤ k) {l : List Int} (hl : l.length ≤ 2^40) (a b : Int) : impl_allWithin.f k l a b = some ((l.all (inB a b), ()), ()) := by
  unfold impl_allWithin.f
  refine (impl_allWithin.l2_for l.length (fun _ x1 x2 x9 x10 => a = x1 ∧ b = x2 ∧ l = x9 ∧ (l.length : Int) = x10) (fun i _ _ _ _ => some (((l.drop i).all (inB a b), ()), ())) ?_ k 0 _ _ _ _ (Nat.zero_le _) ⟨rfl, rfl, rfl, rfl⟩ (by omega)).trans (by simp)
  rintro i _ _ _ _ rec hi ⟨rfl, rfl, rfl, rfl⟩ hrec
  unfold impl_allWithin.s2
  by_cases h : i < l.length
  · simp [h, wrap_succ (show i < 2^62 by omega), all_drop h, hrec _ _ _ _ h ⟨rfl, rfl, rfl, rfl⟩]
    cases inB a b l[i] <;> simp
  · have : i = l.length := by omega
    subst this
    simp

theorem toInt64S_eq {k : Nat} (K : 2^42 ≤ k) {l : List Int} (hl : l.length ≤ 2^40) : laws_toInt64S.f k l = some ((l, ()), ()) := by
  unfold laws_toInt64S.f
  have hm : (l.length : Int) * 8 ≤ 140737488355328 := by omega
  simp [AM.maxBytes, hm]
  refine (laws_toInt64S.l3_for l.length (fun i x0 y => l = x0 ∧ l.take i ++ List.replicate (l.length - i) 0 = y) (fun _ _ _ => some ((l, ()), ())) ?_ k 0 _ _ (Nat.zero_le _) ⟨rfl, by simp⟩ (by omega))
  rintro i _ _ rec hi ⟨rfl, rfl⟩ hrec
  unfold laws_toInt64S.s3
  by_cases h : i < l.length
  · have hmin : min i l.length + (l.length - i) = l.length := by omega
    simp [h, hmin, wrap_succ (show i < 2^62 by omega), copy_step h, hrec _ _ h ⟨rfl, rfl⟩]
  · have : i = l.length := by omega
    subst this
    simp

theorem eqInt64S_eq {k : Nat} (K : 2^42 ≤ k) {a b : List Int} (hl : a.length ≤ 2^40) : laws_eqInt64S.f k a b = some ((a == b, ()), ()) := by
  unfold laws_eqInt64S.f
  by_cases hab : a.length = b.length
  · simp only [hab, bne_self_eq_false, cond_false]
    refine (laws_eqInt64S.l4_for a.length (fun i x0 x1 => a = x0 ∧ b = x1) (fun i _ _ => some ((a.drop i == b.drop i, ()), ())) ?_ k 0 _ _ (Nat.zero_le _) ⟨rfl, rfl⟩ (by omega)).trans (by simp)
    rintro i _ _ rec hi ⟨rfl, rfl⟩ hrec
    unfold laws_eqInt64S.s4
    by_cases h : i < a.length
    · have h' : i < b.length := by omega
      simp [h, h', wrap_succ (show i < 2^62 by omega), beq_drop h h', hrec _ _ h ⟨rfl, rfl⟩, bne]
      cases a[i] == b[i] <;> simp
    · have : i = a.length := by omega
      subst this
      simp [hab]
  · have : (a == b) = false := by
      cases hq : a == b with
      | false => rfl
      | true => exact absurd (congrArg List.length (eq_of_beq hq)) hab
    have h2 : ((a.length : Int) != (b.length : Int)) = true := by simp; omega
    simp [h2, this]

theorem markInt64S_eq {k : Nat} (K : 2^42 ≤ k) {l : List Int} (hl : l.length ≤ 2^40) {a : Int} (h0 : 0 ≤ a) (h1 : a ≤ 2^60) : laws_markInt64S.f k l a = some ((a + l.length, ()), (marks a l.length, ())) := by
  unfold laws_markInt64S.f
  refine (laws_markInt64S.l2_for l.length (fun i x1 y => a + (i : Int) = x1 ∧ marks a i ++ l.drop i = y) (fun _ _ _ => some ((a + l.length, ()), (marks a l.length, ()))) ?_ k 0 _ _ (Nat.zero_le _) ⟨by simp, by simp [marks]⟩ (by omega))
  rintro i _ _ rec hi ⟨rfl, rfl⟩ hrec
  unfold laws_markInt64S.s2
  by_cases h : i < l.length
  · have hlen : (marks a i).length + (l.length - i) = l.length := by rw [marks_len]; omega
    have hw : IntKind.wrap .i64 (a + (i : Int) + 1) = a + ((i + 1 : Nat) : Int) := by rw [wrap_id (by omega) (by omega)]; omega
    simp only [List.length_append, List.length_drop, hlen, in_range h, in_rangeN h, Int.toNat_natCast, marks_step h, hw, wrap_succ (show i < 2^62 by omega), decide_eq_true (show (i : Int) < (l.length : Int) by omega), cond_true, hrec _ _ h ⟨rfl, rfl⟩]
    simp [h]
  · have : i = l.length := by omega
    subst this
    simp [marks_len]

theorem heldInt64S_eq {k : Nat} (K : 2^42 ≤ k) {n : Nat} (hl : n ≤ 2^40) {a : Int} (h0 : 0 ≤ a) (h1 : a ≤ 2^60) : laws_heldInt64S.f k (marks a n) a = some ((a + n, ()), ()) := by
  unfold laws_heldInt64S.f
  refine (laws_heldInt64S.l2_for n (fun i x0 x1 => marks a n = x0 ∧ a + (i : Int) = x1) (fun _ _ _ => some ((a + n, ()), ())) ?_ k 0 _ _ (Nat.zero_le _) ⟨rfl, by simp⟩ (by omega))
  rintro i _ _ rec hi ⟨rfl, rfl⟩ hrec
  unfold laws_heldInt64S.s2
  by_cases h : i < n
  · have hw : IntKind.wrap .i64 (a + (i : Int) + 1) = a + ((i + 1 : Nat) : Int) := by rw [wrap_id (by omega) (by omega)]; omega
    simp only [marks_len, in_range h, Int.toNat_natCast, hw, wrap_succ (show i < 2^62 by omega), decide_eq_true (show (i : Int) < (n : Int) by omega), cond_true, getD_lt (show i < (marks a n).length by rw [marks_len]; exact h), marks_get h, bne_self_eq_false, cond_false, hrec _ _ h ⟨rfl, rfl⟩]
    simp
  · have : i = n := by omega
    subst this
    simp [marks_len]

/-- What is too long: the law says nothing of it. -/
theorem long {α : Type} {l : List α} : (decide ((((l.length : Nat) : Int)) > (1048576 : Int))) = decide (1048576 < l.length) := by
  simp; omega

/-- Where x stands first. -/
theorem index_eq {k : Nat} (K : 2^42 ≤ k) {l : List Int} (hl : l.length ≤ 2^40) (x : Int) : slices_Index_int64_int64.f k l x = some ((if x ∈ l then ((l.idxOf x : Nat) : Int) else -1, ()), ()) := by
  unfold slices_Index_int64_int64.f
  refine (slices_Index_int64_int64.l2_for l.length (fun i x0 x1 x7 => l = x0 ∧ x = x1 ∧ (l.length : Int) = x7 ∧ ∀ j, j < i → l.getD j 0 ≠ x) (fun i _ _ _ => some ((if x ∈ l then ((l.idxOf x : Nat) : Int) else -1, ()), ())) ?_ k 0 _ _ _ (Nat.zero_le _) ⟨rfl, rfl, rfl, fun j hj => by omega⟩ (by omega))
  rintro i _ _ _ rec hi ⟨rfl, rfl, rfl, hno⟩ hrec
  unfold slices_Index_int64_int64.s2
  by_cases h : i < l.length
  · by_cases hx : x = l[i]
    · have hm : x ∈ l := hx ▸ List.getElem_mem h
      have hidx : l.idxOf x = i := idxOf_first h hx.symm (fun j hj => by have := hno j hj; rwa [getD_lt (show j < l.length by omega)] at this)
      simp [h, hx.symm, hm, hidx]
    · have hb : (x == l[i]) = false := by simp [hx]
      simp only [Int.toNat_natCast, getD_lt h, hb, nn, ltD h, Bool.and_self, wrap_succ (show i < 2^62 by omega), cond_true, cond_false]
      refine hrec _ _ _ h ⟨rfl, rfl, rfl, fun j hj => ?_⟩
      rcases Nat.lt_or_ge j i with e | e
      · exact hno j e
      · have : j = i := by omega
        subst this
        rw [getD_lt h]
        exact fun e => hx e.symm
  · have : i = l.length := by omega
    subst this
    have hm : x ∉ l := by
      intro hm
      obtain ⟨j, hj, e⟩ := List.mem_iff_getElem.1 hm
      exact hno j hj (by rw [getD_lt hj]; exact e)
    simp [hm]

theorem l01Has_eq {k : Nat} (K : 2^42 ≤ k) {l : List Int} (hl : l.length ≤ 2^40) (x : Int) : spec_l01Has.f k l x = some ((decide (x ∈ l), ()), ()) := by
  unfold spec_l01Has.f
  refine (spec_l01Has.l2_for l.length (fun i x0 x1 => l = x0 ∧ x = x1) (fun i _ _ => some ((decide (x ∈ l.drop i), ()), ())) ?_ k 0 _ _ (Nat.zero_le _) ⟨rfl, rfl⟩ (by omega)).trans (by simp)
  rintro i _ _ rec hi ⟨rfl, rfl⟩ hrec
  unfold spec_l01Has.s2
  by_cases h : i < l.length
  · simp only [nn, ltD h, Bool.and_self, Int.toNat_natCast, getD_lt h, wrap_succ (show i < 2^62 by omega), cond_true, hrec _ _ h ⟨rfl, rfl⟩]
    have e : (x ∈ l.drop i) ↔ (l[i] = x ∨ x ∈ l.drop (i + 1)) := by
      rw [List.drop_eq_getElem_cons h, List.mem_cons]
      exact ⟨fun h => h.imp Eq.symm id, fun h => h.imp Eq.symm id⟩
    by_cases hx : l[i] = x
    · simp [hx, e]
    · have hb : (l[i] == x) = false := by simp [hx]
      simp [hx, e, hb]
  · have : i = l.length := by omega
    subst this
    simp

theorem contains_eq {k : Nat} (K : 2^42 ≤ k) {l : List Int} (hl : l.length ≤ 2^40) (x : Int) : slices_Contains_int64_int64.f k l x = some ((decide (x ∈ l), ()), ()) := by
  unfold slices_Contains_int64_int64.f
  rw [index_eq K hl]
  by_cases h : x ∈ l <;> simp [h]

/-- Strictly rising. -/
def risesB : List Int → Bool
  | x :: y :: l => decide (x < y) && risesB (y :: l)
  | _ => true

theorem rises_drop {l : List Int} {i : Nat} (h : i + 1 < l.length) : risesB (l.drop i) = (decide (l[i] < l[i + 1]) && risesB (l.drop (i + 1))) := by
  rw [List.drop_eq_getElem_cons (show i < l.length by omega), List.drop_eq_getElem_cons h, risesB]

theorem rises_last {l : List Int} {i : Nat} (h : l.length ≤ i + 1) : risesB (l.drop i) = true := by
  have : (l.drop i).length ≤ 1 := by rw [List.length_drop]; omega
  match hd : l.drop i, this with
  | [], _ => rfl
  | [_], _ => rfl

theorem increasing_eq {k : Nat} (K : 2^42 ≤ k) {l : List Int} (hl : l.length ≤ 2^40) (h0 : 0 < l.length) : impl_increasing.f k l = some ((risesB l, ()), ()) := by
  unfold impl_increasing.f
  refine (impl_increasing.l2_for l.length (fun i x0 => l = x0 ∧ 1 ≤ i) (fun i _ => some ((risesB (l.drop (i - 1)), ()), ())) ?_ k 1 _ (by omega) ⟨rfl, by omega⟩ (by omega)).trans (by simp)
  rintro i _ rec hi ⟨rfl, h1⟩ hrec
  unfold impl_increasing.s2
  by_cases h : i < l.length
  · have hp : i - 1 < l.length := by omega
    have e : risesB (l.drop (i - 1)) = (decide (l[i - 1] < l[i]) && risesB (l.drop i)) := by
      have e1 : i - 1 + 1 = i := by omega
      have := rises_drop (l := l) (i := i - 1) (by omega)
      simp only [e1] at this
      exact this
    simp only [wrap_pred (show i < 2^62 by omega) (by omega), nn, ltD h, ltD hp, Bool.and_self, Int.toNat_natCast, getD_lt h, getD_lt hp, wrap_succ (show i < 2^62 by omega), cond_true, hrec _ h ⟨rfl, by omega⟩, e, Nat.add_sub_cancel]
    by_cases hx : l[i - 1] < l[i]
    · simp [hx, show ¬ l[i] ≤ l[i - 1] by omega]
    · simp [hx, show l[i] ≤ l[i - 1] by omega]
  · have : i = l.length := by omega
    subst this
    simp [rises_last (l := l) (i := l.length - 1) (by omega)]

theorem l01Rises_eq {k : Nat} (K : 2^42 ≤ k) {l : List Int} (hl : l.length ≤ 2^40) {n : Int} (h0 : 0 ≤ n) (h1 : n ≤ 2^40) : spec_l01Rises.f k l n = some ((l.all (inB 0 (n - 1)) && risesB l, ()), ()) := by
  unfold spec_l01Rises.f
  have hw : IntKind.wrap .i64 (n - 1) = n - 1 := wrap_id (by omega) (by omega)
  refine (spec_l01Rises.l2_for l.length (fun i x0 x1 => l = x0 ∧ n = x1) (fun i _ _ => some (((l.drop i).all (inB 0 (n - 1)) && risesB (l.drop (i - 1)), ()), ())) ?_ k 0 _ _ (by omega) ⟨rfl, rfl⟩ (by omega)).trans (by simp)
  rintro i _ _ rec hi ⟨rfl, rfl⟩ hrec
  unfold spec_l01Rises.s2
  by_cases h : i < l.length
  · simp only [hw, l01In_eq, nn, ltD h, Bool.and_self, Int.toNat_natCast, getD_lt h, wrap_succ (show i < 2^62 by omega), cond_true, hrec _ _ h ⟨rfl, rfl⟩, Option.bind_some, all_drop h, Nat.add_sub_cancel]
    cases hb : inB 0 (n - 1) l[i] with
    | false => simp
    | true =>
      simp only [Bool.not_true, cond_false, Bool.true_and]
      rcases Nat.eq_zero_or_pos i with e0 | e0
      · subst e0
        simp
      · have hp : i - 1 < l.length := by omega
        have e : risesB (l.drop (i - 1)) = (decide (l[i - 1] < l[i]) && risesB (l.drop i)) := by
          have e1 : i - 1 + 1 = i := by omega
          have := rises_drop (l := l) (i := i - 1) (by omega)
          simp only [e1] at this
          exact this
        have hpos : decide ((i : Int) > 0) = true := by simp; exact e0
        simp only [hpos, cond_true, wrap_pred (show i < 2^62 by omega) (by omega), nn, ltD hp, Bool.and_self, Int.toNat_natCast, getD_lt hp, e]
        by_cases hx : l[i - 1] < l[i]
        · simp [hx, show ¬ l[i] ≤ l[i - 1] by omega]
        · simp [hx, show l[i] ≤ l[i - 1] by omega]
  · have : i = l.length := by omega
    subst this
    simp [rises_last (l := l) (i := l.length - 1) (by omega)]

/-- Seats of a pot. -/
def wins (w : List Int) (n : Int) : Bool := decide (0 < w.length) && (w.all (inB 0 (n - 1)) && risesB w)

theorem l13Winners_eq {k : Nat} (K : 2^42 ≤ k) {l : List Int} (hl : l.length ≤ 2^40) {n : Int} (h0 : 0 ≤ n) (h1 : n ≤ 2^40) : spec_l13Winners.f k l n = some ((wins l n, ()), ()) := by
  unfold spec_l13Winners.f wins
  rw [l01Rises_eq K hl h0 h1]
  by_cases h : 0 < l.length <;> simp [h]

theorem areWinners_eq {k : Nat} (K : 2^42 ≤ k) {l : List Int} (hl : l.length ≤ 2^40) {n : Int} (h0 : 0 ≤ n) (h1 : n ≤ 2^40) : impl_areWinners.f k l n = some ((wins l n, ()), ()) := by
  unfold impl_areWinners.f wins
  have hw : IntKind.wrap .i64 (n - 1) = n - 1 := wrap_id (by omega) (by omega)
  by_cases h : 0 < l.length
  · have e : decide ((l.length : Int) > 0) = true := decide_eq_true (by omega)
    simp only [e, cond_true, hw, allWithin_eq K hl, Option.bind_some, h, decide_true, Bool.true_and]
    cases hb : l.all (inB 0 (n - 1)) with
    | false => simp
    | true => simp [increasing_eq K hl h]
  · have e : decide ((l.length : Int) > 0) = false := decide_eq_false (by omega)
    simp [e, h]

/-- One seat's turn: what is left over, and the shares. -/
def spStep (w : List Int) (S F : Nat) (q : Int) (s : Int × List Int) (i : Nat) : Int × List Int :=
  if (((F + i) % S : Nat) : Int) ∈ w then (if s.1 > 0 then (s.1 - 1, s.2.set ((F + i) % S) (q + 1)) else (s.1, s.2.set ((F + i) % S) q)) else s

def spRun (w : List Int) (S F : Nat) (a : Int) (i : Nat) : Int × List Int := (List.range i).foldl (spStep w S F (a.tdiv w.length)) (a.tmod w.length, List.replicate S 0)

/-- The shares. -/
def splitL (w : List Int) (S F : Nat) (a : Int) : List Int := (spRun w S F a S).2

theorem spRun_succ (w : List Int) (S F : Nat) (a : Int) (i : Nat) : spRun w S F a (i + 1) = spStep w S F (a.tdiv w.length) (spRun w S F a i) i := by
  unfold spRun; rw [List.range_succ, List.foldl_append]; rfl

theorem spStep_len (w : List Int) (S F : Nat) (q : Int) (s : Int × List Int) (i : Nat) : (spStep w S F q s i).2.length = s.2.length := by
  unfold spStep; split
  · split <;> simp
  · rfl

theorem spRun_len (w : List Int) (S F : Nat) (a : Int) : ∀ i, (spRun w S F a i).2.length = S
  | 0 => by simp [spRun]
  | i + 1 => by rw [spRun_succ, spStep_len, spRun_len w S F a i]

theorem spRun_rest (w : List Int) (S F : Nat) {a : Int} (h0 : 0 ≤ a) : ∀ i, 0 ≤ (spRun w S F a i).1 ∧ (spRun w S F a i).1 ≤ a
  | 0 => by
    simp only [spRun, List.range_zero, List.foldl_nil]
    obtain ⟨m, rfl⟩ := Int.eq_ofNat_of_zero_le h0
    have e : Int.tmod (m : Int) (w.length : Int) = ((m % w.length : Nat) : Int) := (Int.ofNat_tmod m w.length).symm
    rw [e]
    have := Nat.mod_le m w.length
    omega
  | i + 1 => by
    have := spRun_rest w S F h0 i
    rw [spRun_succ]
    unfold spStep
    split
    · split
      · simp only; omega
      · exact this
    · exact this

theorem div_le {a : Int} {n : Nat} (h0 : 0 ≤ a) : 0 ≤ a.tdiv n ∧ a.tdiv n ≤ a := ⟨Int.tdiv_nonneg h0 (Int.natCast_nonneg n), Int.tdiv_le_self _ h0⟩

theorem tmod_seat {S F i : Nat} (hF : F < 2^40) (hi : i < 2^40) : Int.tmod (IntKind.wrap .i64 ((F : Int) + (i : Int))) (S : Int) = (((F + i) % S : Nat) : Int) := by
  rw [wrap_id (by omega) (by omega)]
  exact (Int.ofNat_tmod (F + i) S).symm

theorem sSplit_eq {k : Nat} (K : 2^42 ≤ k) {w : List Int} (hl : w.length ≤ 2^40) (hw : 0 < w.length) {a : Int} (ha : 0 ≤ a) (ha' : a ≤ 2^40) {S F : Nat} (hS : 0 < S) (hS' : S ≤ 2^20) (hF : F < 2^40) :
    spec_l13Split.f k a w (S : Int) (F : Int) = some ((splitL w S F a, ()), ()) := by
  unfold spec_l13Split.f
  have hm : decide ((S : Int) * ((8 : Nat) : Int) ≤ (AM.maxBytes : Int)) = true := by unfold AM.maxBytes; simp; omega
  have hn : decide ((w.length : Int) = 0) = false := decide_eq_false (by omega)
  simp only [nn, Int.le_refl, decide_true, hm, Bool.and_self, cond_true, hn, Bool.not_false, Int.toNat_natCast]
  refine (spec_l13Split.l5_for S (fun i x0 x1 x2 x3 x10 x11 y => a = x0 ∧ w = x1 ∧ (S : Int) = x2 ∧ (F : Int) = x3 ∧ (w.length : Int) = x10 ∧ (spRun w S F a i).1 = x11 ∧ (spRun w S F a i).2 = y) (fun _ _ _ _ _ _ _ _ => some ((splitL w S F a, ()), ())) ?_ k 0 _ _ _ _ _ _ _ (Nat.zero_le _) ⟨rfl, rfl, rfl, rfl, rfl, rfl, rfl⟩ (by omega))
  rintro i _ _ _ _ _ _ _ rec hi ⟨rfl, rfl, rfl, rfl, rfl, rfl, rfl⟩ hrec
  unfold spec_l13Split.s5
  by_cases h : i < S
  · have ht : (F + i) % S < S := Nat.mod_lt _ hS
    have hlen := spRun_len w S F a i
    have hrest := spRun_rest w S F ha i
    have hq := div_le (n := w.length) ha
    have hS0 : decide ((S : Int) = 0) = false := decide_eq_false (by omega)
    have e := hrec a w (S : Int) (F : Int) (w.length : Int) _ _ h ⟨rfl, rfl, rfl, rfl, rfl, rfl, rfl⟩
    have hwq : IntKind.wrap .i64 (a.tdiv w.length) = a.tdiv w.length := wrap_id (by omega) (by omega)
    have hwq1 : IntKind.wrap .i64 (a.tdiv w.length + 1) = a.tdiv w.length + 1 := wrap_id (by omega) (by omega)
    have hwr : IntKind.wrap .i64 ((spRun w S F a i).1 - 1) = (spRun w S F a i).1 - 1 := wrap_id (by omega) (by omega)
    have htl : (F + i) % S < (spRun w S F a i).2.length := by omega
    simp only [ltD h, tmod_seat hF (show i < 2^40 by omega), hS0, hn, Bool.not_false, cond_true, l01Has_eq K hl, Option.bind_some, nn, hlen, ltD ht, Bool.and_self, Int.toNat_natCast, List.length_set, decide_eq_true ht, hwq, hwr, wrap_succ (show i < 2^62 by omega)]
    rw [spRun_succ] at e
    unfold spStep at e
    by_cases hin : (((F + i) % S : Nat) : Int) ∈ w
    · simp only [hin, decide_true, cond_true]
      rw [if_pos hin] at e
      by_cases hr : (spRun w S F a i).1 > 0
      · rw [if_pos hr] at e
        have hg : ((spRun w S F a i).2.set ((F + i) % S) (a.tdiv w.length)).getD ((F + i) % S) 0 = a.tdiv w.length := by
          rw [getD_lt (by rw [List.length_set]; omega)]; simp
        simp only [decide_eq_true hr, cond_true, hg, hwq1, List.set_set]
        exact e
      · rw [if_neg hr] at e
        simp only [decide_eq_false hr, cond_false]
        exact e
    · simp only [hin, decide_false, cond_false]
      rw [if_neg hin] at e
      exact e
  · have : i = S := by omega
    subst this
    simp [splitL]

theorem iSplit_eq {k : Nat} (K : 2^42 ≤ k) {w : List Int} (hl : w.length ≤ 2^40) (hw : 0 < w.length) {a : Int} (ha : 0 ≤ a) (ha' : a ≤ 2^40) {S F : Nat} (hS : 0 < S) (hS' : S ≤ 2^20) (hF : F < 2^40) :
    impl_splitChips.f k a w (S : Int) (F : Int) = some ((splitL w S F a, ()), ()) := by
  unfold impl_splitChips.f
  have hm : decide ((S : Int) * ((8 : Nat) : Int) ≤ (AM.maxBytes : Int)) = true := by unfold AM.maxBytes; simp; omega
  have hn : decide ((w.length : Int) = 0) = false := decide_eq_false (by omega)
  simp only [nn, Int.le_refl, decide_true, hm, Bool.and_self, cond_true, hn, Bool.not_false, Int.toNat_natCast]
  refine (impl_splitChips.l5_for S (fun i x0 x1 x2 x3 x10 x11 x21 y => a = x0 ∧ w = x1 ∧ (S : Int) = x2 ∧ (F : Int) = x3 ∧ (w.length : Int) = x10 ∧ (spRun w S F a i).1 = x11 ∧ (S : Int) = x21 ∧ (spRun w S F a i).2 = y) (fun _ _ _ _ _ _ _ _ _ => some ((splitL w S F a, ()), ())) ?_ k 0 _ _ _ _ _ _ _ _ (Nat.zero_le _) ⟨rfl, rfl, rfl, rfl, rfl, rfl, rfl, rfl⟩ (by omega))
  rintro i _ _ _ _ _ _ _ _ rec hi ⟨rfl, rfl, rfl, rfl, rfl, rfl, rfl, rfl⟩ hrec
  unfold impl_splitChips.s5
  by_cases h : i < S
  · have ht : (F + i) % S < S := Nat.mod_lt _ hS
    have hlen := spRun_len w S F a i
    have hrest := spRun_rest w S F ha i
    have hq := div_le (n := w.length) ha
    have hS0 : decide ((S : Int) = 0) = false := decide_eq_false (by omega)
    have e := hrec a w (S : Int) (F : Int) (w.length : Int) _ (S : Int) _ h ⟨rfl, rfl, rfl, rfl, rfl, rfl, rfl, rfl⟩
    have hwq : IntKind.wrap .i64 (a.tdiv w.length) = a.tdiv w.length := wrap_id (by omega) (by omega)
    have hwq1 : IntKind.wrap .i64 (a.tdiv w.length + 1) = a.tdiv w.length + 1 := wrap_id (by omega) (by omega)
    have hwr : IntKind.wrap .i64 ((spRun w S F a i).1 - 1) = (spRun w S F a i).1 - 1 := wrap_id (by omega) (by omega)
    have htl : (F + i) % S < (spRun w S F a i).2.length := by omega
    simp only [ltD h, tmod_seat hF (show i < 2^40 by omega), hS0, hn, Bool.not_false, cond_true, contains_eq K hl, Option.bind_some, nn, hlen, ltD ht, Bool.and_self, Int.toNat_natCast, List.length_set, decide_eq_true ht, hwq, hwr, wrap_succ (show i < 2^62 by omega)]
    rw [spRun_succ] at e
    unfold spStep at e
    by_cases hin : (((F + i) % S : Nat) : Int) ∈ w
    · simp only [hin, decide_true, Bool.not_true, cond_false]
      rw [if_pos hin] at e
      by_cases hr : (spRun w S F a i).1 > 0
      · rw [if_pos hr] at e
        have hg : ((spRun w S F a i).2.set ((F + i) % S) (a.tdiv w.length)).getD ((F + i) % S) 0 = a.tdiv w.length := by
          rw [getD_lt (by rw [List.length_set]; omega)]; simp
        simp only [decide_eq_true hr, cond_true, hg, hwq1, List.set_set]
        exact e
      · rw [if_neg hr] at e
        simp only [decide_eq_false hr, cond_false]
        exact e
    · simp only [hin, decide_false, Bool.not_false, cond_true]
      rw [if_neg hin] at e
      exact e
  · have : i = S := by omega
    subst this
    simp [splitL]

/-- What SplitChips returns. -/
def SplR (a : Int) (w : List Int) (n f : Int) : List Int × Int :=
  if inB 2 6 n = true then (if wins w n = true then (if inB 0 600000 a = true ∧ inB 0 (n - 1) f = true then (splitL w n.toNat f.toNat a, 0) else ([], 2)) else ([], 1)) else ([], 2)

theorem inB_iff {a b x : Int} : inB a b x = true ↔ a ≤ x ∧ x ≤ b := by simp [inB]

theorem wins_pos {w : List Int} {n : Int} (h : wins w n = true) : 0 < w.length := by simp only [wins, Bool.and_eq_true, decide_eq_true_eq] at h; exact h.1

theorem sSplitChips_eq {k : Nat} (K : 2^42 ≤ k) {a : Int} {w : List Int} {n f : Int} (hl : w.length ≤ 2^40) : spec_SplitChips.f k a w n f = some (((SplR a w n f).1, (SplR a w n f).2, ()), ()) := by
  unfold spec_SplitChips.f spec_l13Seats.f spec_l13Amount.f SplR
  simp only [l01In_eq, Option.bind_some]
  cases h1 : inB 2 6 n with
  | false => simp
  | true =>
    have hn := inB_iff.1 h1
    simp only [Bool.not_true, cond_false, if_true, l13Winners_eq K hl (show 0 ≤ n by omega) (show n ≤ 2^40 by omega), Option.bind_some]
    cases h2 : wins w n with
    | false => simp
    | true =>
      simp only [Bool.not_true, cond_false, if_true]
      cases h3 : inB 0 600000 a with
      | false => simp
      | true =>
        have ha := inB_iff.1 h3
        have hw : IntKind.wrap .i64 (n - 1) = n - 1 := wrap_id (by omega) (by omega)
        simp only [Bool.not_true, cond_false, true_and, hw]
        cases h4 : inB 0 (n - 1) f with
        | false => simp
        | true =>
          have hf := inB_iff.1 h4
          obtain ⟨S, rfl⟩ := Int.eq_ofNat_of_zero_le (show 0 ≤ n by omega)
          obtain ⟨F, rfl⟩ := Int.eq_ofNat_of_zero_le (show 0 ≤ f by omega)
          simp only [Int.ofNat_eq_natCast] at *
          simp only [Bool.not_true, cond_false, if_true, sSplit_eq K hl (wins_pos h2) ha.1 (show a ≤ 2^40 by omega) (show 0 < S by omega) (show S ≤ 2^20 by omega) (show F < 2^40 by omega), Option.bind_some, Int.toNat_natCast]

theorem iSplitChips_eq {k : Nat} (K : 2^42 ≤ k) {a : Int} {w : List Int} {n f : Int} (hl : w.length ≤ 2^40) : impl_SplitChips.f k a w n f = some (((SplR a w n f).1, (SplR a w n f).2, ()), ()) := by
  unfold impl_SplitChips.f SplR
  simp only [within_eq, Option.bind_some]
  cases h1 : inB 2 6 n with
  | false => simp
  | true =>
    have hn := inB_iff.1 h1
    simp only [Bool.not_true, cond_false, if_true, areWinners_eq K hl (show 0 ≤ n by omega) (show n ≤ 2^40 by omega), Option.bind_some]
    cases h2 : wins w n with
    | false => simp
    | true =>
      simp only [Bool.not_true, cond_false, if_true]
      cases h3 : inB 0 600000 a with
      | false => simp
      | true =>
        have ha := inB_iff.1 h3
        have hw : IntKind.wrap .i64 (n - 1) = n - 1 := wrap_id (by omega) (by omega)
        simp only [Bool.not_true, cond_false, true_and, hw]
        cases h4 : inB 0 (n - 1) f with
        | false => simp
        | true =>
          have hf := inB_iff.1 h4
          obtain ⟨S, rfl⟩ := Int.eq_ofNat_of_zero_le (show 0 ≤ n by omega)
          obtain ⟨F, rfl⟩ := Int.eq_ofNat_of_zero_le (show 0 ≤ f by omega)
          simp only [Int.ofNat_eq_natCast] at *
          simp only [Bool.not_true, cond_false, if_true, iSplit_eq K hl (wins_pos h2) ha.1 (show a ≤ 2^40 by omega) (show 0 < S by omega) (show S ≤ 2^20 by omega) (show F < 2^40 by omega), Option.bind_some, Int.toNat_natCast]

theorem SplR_len (a : Int) (w : List Int) (n f : Int) : (SplR a w n f).1.length ≤ 2^40 := by
  unfold SplR
  split
  · rename_i h1
    have hn := inB_iff.1 h1
    split
    · split
      · simp only [splitL, spRun_len]; omega
      · simp
    · simp
  · simp

theorem FnExactSplitChips_ok (a0 : Int) (a1 : List Int) (a2 a3 : Int) : laws_FnExactSplitChips.f (2^42) a0 a1 a2 a3 = some ((true, ()), ()) := by
  unfold laws_FnExactSplitChips.f
  simp only [long]
  by_cases h1 : 1048576 < a1.length
  · simp [h1]
  have K : 2^42 ≤ 2^42 := Nat.le_refl _
  have hl : a1.length ≤ 2^40 := by omega
  have hr := SplR_len a0 a1 a2 a3
  have e1 := markInt64S_eq K hl (a := 1) (by omega) (by omega)
  have e3 := markInt64S_eq K hr (a := 1) (by omega) (by omega)
  have e4 := heldInt64S_eq K hr (a := 1) (by omega) (by omega)
  have n1 : decide ((1 : Int) + a1.length < 0) = false := by simp; omega
  have n2 : decide ((1 : Int) + (SplR a0 a1 a2 a3).1.length < 0) = false := by simp; omega
  simp only [h1, toInt64S_eq K hl, sSplitChips_eq K hl, iSplitChips_eq K hl, eqInt64S_eq K hl, eqInt64S_eq K hr, e1, e3, e4, n1, n2, Option.bind_some, decide_false, cond_false, beq_self_eq_true, Bool.not_true, bne_self_eq_false]
end Go.Sh
