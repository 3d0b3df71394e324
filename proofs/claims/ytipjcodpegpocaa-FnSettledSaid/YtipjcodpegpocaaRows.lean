/-
  No cell of these rows narrows 'for every input' (looked for: loops, veiled, ifaces, maps, wideKeys, modest, calm, conditions, laid).
  DERIVED. THE GIVEN ROWS OF THIS SEAT. 9 by the template 'for every input the law returns true; each argument reads behind the call as it read before'; 0 by the template 'total and deterministic' (their statements: YtipjcodpegpocaaTotals.lean).
  GIVEN WITH THE SEED: the statements are not yours to turn. If you find one false, say at which input.
  Laid BY PROGRAM, IN A SANDBOX (cutbox-rows.mjs): the forced cells as the released guide's own fill.sh prints them over the translation 43acfaaf4c8e4f63… (all of the seat's roots in one cut). By AI agents, Wed Nov 11 2026. No macro, syntax, notation, axiom, sorry.
-/
import Derived.Test.YtipjcodpegpocaaChecked
import GoSem.Claim
import GoSem.ClaimJoined
import GoSem.ClaimMapViews
import Derived.JoinedTies
import Derived.KernelRfl
namespace Go.Proofs.Ytipjcodpegpocaa
/- THE CELL 'sum', in the pinned program and in every row, IS THE sha256 OF THE DUMP (.gsa) THAT YtipjcodpegpocaaProg.lean LOADS. Nothing in Lean hashes anything: it is a label: what it is worth is what the hold of that sum in a sandbox is worth. -/
noncomputable def Try.pinned : Pinned := { name := "ytipjcodpegpocaa", sum := "43acfaaf4c8e4f632e7e08ae00790b1549b0d6dd8348245f86fe5805bcf3faa5", checked := Try.checked }
namespace Rows
def none {H : Type} : Left H := { results := [], args := [] }

/-- 'laws.FnExactSplitChips': WHATEVER THE INPUT: true; the input reads as it did. -/
def fnExactSplitChipsSpec : ChangeSpec := { name := "fnExactSplitChips", fn := fun _ => fun
  | [d1, d2, d3, d4] => { results := [.lit (.bool true)], args := [d1, d2, d3, d4] }
  | _ => none }
def fnExactSplitChipsRow : OpenClaim := { program := "ytipjcodpegpocaa", sum := "43acfaaf4c8e4f632e7e08ae00790b1549b0d6dd8348245f86fe5805bcf3faa5", func := "loop.example/g00910/laws.FnExactSplitChips", spec := "fnExactSplitChips", apart := false }
def FnExactSplitChipsSaid : Prop := fnExactSplitChipsRow.holds Try.pinned (OpenSpec.ofChange fnExactSplitChipsSpec)

/-- ITS FALSE NEIGHBOUR: 'it returns false'. Refute it at one input. -/
def fnExactSplitChipsWrong : ChangeSpec := { name := "fnExactSplitChips", fn := fun _ => fun
  | [d1, d2, d3, d4] => { results := [.lit (.bool false)], args := [d1, d2, d3, d4] }
  | _ => none }
def FnExactSplitChipsWrongFalsely : Prop := fnExactSplitChipsRow.holds Try.pinned (OpenSpec.ofChange fnExactSplitChipsWrong)

/-- 'laws.FnExactHighWinners': WHATEVER THE INPUT: true; the input reads as it did. -/
def fnExactHighWinnersSpec : ChangeSpec := { name := "fnExactHighWinners", fn := fun _ => fun
  | [d1, d2] => { results := [.lit (.bool true)], args := [d1, d2] }
  | _ => none }
def fnExactHighWinnersRow : OpenClaim := { program := "ytipjcodpegpocaa", sum := "43acfaaf4c8e4f632e7e08ae00790b1549b0d6dd8348245f86fe5805bcf3faa5", func := "loop.example/g00910/laws.FnExactHighWinners", spec := "fnExactHighWinners", unfollowed := true, recurses := true, apart := false }
def FnExactHighWinnersSaid : Prop := fnExactHighWinnersRow.holds Try.pinned (OpenSpec.ofChange fnExactHighWinnersSpec)

/-- ITS FALSE NEIGHBOUR: 'it returns false'. Refute it at one input. -/
def fnExactHighWinnersWrong : ChangeSpec := { name := "fnExactHighWinners", fn := fun _ => fun
  | [d1, d2] => { results := [.lit (.bool false)], args := [d1, d2] }
  | _ => none }
def FnExactHighWinnersWrongFalsely : Prop := fnExactHighWinnersRow.holds Try.pinned (OpenSpec.ofChange fnExactHighWinnersWrong)

/-- 'laws.FnExactLowWinners': WHATEVER THE INPUT: true; the input reads as it did. -/
def fnExactLowWinnersSpec : ChangeSpec := { name := "fnExactLowWinners", fn := fun _ => fun
  | [d1, d2] => { results := [.lit (.bool true)], args := [d1, d2] }
  | _ => none }
def fnExactLowWinnersRow : OpenClaim := { program := "ytipjcodpegpocaa", sum := "43acfaaf4c8e4f632e7e08ae00790b1549b0d6dd8348245f86fe5805bcf3faa5", func := "loop.example/g00910/laws.FnExactLowWinners", spec := "fnExactLowWinners", unfollowed := true, recurses := true, apart := false }
def FnExactLowWinnersSaid : Prop := fnExactLowWinnersRow.holds Try.pinned (OpenSpec.ofChange fnExactLowWinnersSpec)

/-- ITS FALSE NEIGHBOUR: 'it returns false'. Refute it at one input. -/
def fnExactLowWinnersWrong : ChangeSpec := { name := "fnExactLowWinners", fn := fun _ => fun
  | [d1, d2] => { results := [.lit (.bool false)], args := [d1, d2] }
  | _ => none }
def FnExactLowWinnersWrongFalsely : Prop := fnExactLowWinnersRow.holds Try.pinned (OpenSpec.ofChange fnExactLowWinnersWrong)

/-- 'laws.FnExactAwardPot': WHATEVER THE INPUT: true; the input reads as it did. -/
def fnExactAwardPotSpec : ChangeSpec := { name := "fnExactAwardPot", fn := fun _ => fun
  | [d1, d2, d3, d4] => { results := [.lit (.bool true)], args := [d1, d2, d3, d4] }
  | _ => none }
def fnExactAwardPotRow : OpenClaim := { program := "ytipjcodpegpocaa", sum := "43acfaaf4c8e4f632e7e08ae00790b1549b0d6dd8348245f86fe5805bcf3faa5", func := "loop.example/g00910/laws.FnExactAwardPot", spec := "fnExactAwardPot", unfollowed := true, recurses := true, apart := false }
def FnExactAwardPotSaid : Prop := fnExactAwardPotRow.holds Try.pinned (OpenSpec.ofChange fnExactAwardPotSpec)

/-- ITS FALSE NEIGHBOUR: 'it returns false'. Refute it at one input. -/
def fnExactAwardPotWrong : ChangeSpec := { name := "fnExactAwardPot", fn := fun _ => fun
  | [d1, d2, d3, d4] => { results := [.lit (.bool false)], args := [d1, d2, d3, d4] }
  | _ => none }
def FnExactAwardPotWrongFalsely : Prop := fnExactAwardPotRow.holds Try.pinned (OpenSpec.ofChange fnExactAwardPotWrong)

/-- 'laws.FnSplits': WHATEVER THE INPUT: true; the input reads as it did. -/
def fnSplitsSpec : ChangeSpec := { name := "fnSplits", fn := fun _ => fun
  | [d] => { results := [.lit (.bool true)], args := [d] }
  | _ => none }
def fnSplitsRow : OpenClaim := { program := "ytipjcodpegpocaa", sum := "43acfaaf4c8e4f632e7e08ae00790b1549b0d6dd8348245f86fe5805bcf3faa5", func := "loop.example/g00910/laws.FnSplits", spec := "fnSplits", unfollowed := true, recurses := true, apart := false }
def FnSplitsSaid : Prop := fnSplitsRow.holds Try.pinned (OpenSpec.ofChange fnSplitsSpec)

/-- ITS FALSE NEIGHBOUR: 'it returns false'. Refute it at one input. -/
def fnSplitsWrong : ChangeSpec := { name := "fnSplits", fn := fun _ => fun
  | [d] => { results := [.lit (.bool false)], args := [d] }
  | _ => none }
def FnSplitsWrongFalsely : Prop := fnSplitsRow.holds Try.pinned (OpenSpec.ofChange fnSplitsWrong)

/-- 'laws.FnExactAwardPots': WHATEVER THE INPUT: true; the input reads as it did. -/
def fnExactAwardPotsSpec : ChangeSpec := { name := "fnExactAwardPots", fn := fun _ => fun
  | [d1, d2, d3, d4] => { results := [.lit (.bool true)], args := [d1, d2, d3, d4] }
  | _ => none }
def fnExactAwardPotsRow : OpenClaim := { program := "ytipjcodpegpocaa", sum := "43acfaaf4c8e4f632e7e08ae00790b1549b0d6dd8348245f86fe5805bcf3faa5", func := "loop.example/g00910/laws.FnExactAwardPots", spec := "fnExactAwardPots", unfollowed := true, recurses := true, apart := false }
def FnExactAwardPotsSaid : Prop := fnExactAwardPotsRow.holds Try.pinned (OpenSpec.ofChange fnExactAwardPotsSpec)

/-- ITS FALSE NEIGHBOUR: 'it returns false'. Refute it at one input. -/
def fnExactAwardPotsWrong : ChangeSpec := { name := "fnExactAwardPots", fn := fun _ => fun
  | [d1, d2, d3, d4] => { results := [.lit (.bool false)], args := [d1, d2, d3, d4] }
  | _ => none }
def FnExactAwardPotsWrongFalsely : Prop := fnExactAwardPotsRow.holds Try.pinned (OpenSpec.ofChange fnExactAwardPotsWrong)

/-- 'laws.FnAwards': WHATEVER THE INPUT: true; the input reads as it did. -/
def fnAwardsSpec : ChangeSpec := { name := "fnAwards", fn := fun _ => fun
  | [d] => { results := [.lit (.bool true)], args := [d] }
  | _ => none }
def fnAwardsRow : OpenClaim := { program := "ytipjcodpegpocaa", sum := "43acfaaf4c8e4f632e7e08ae00790b1549b0d6dd8348245f86fe5805bcf3faa5", func := "loop.example/g00910/laws.FnAwards", spec := "fnAwards", unfollowed := true, recurses := true, apart := false }
def FnAwardsSaid : Prop := fnAwardsRow.holds Try.pinned (OpenSpec.ofChange fnAwardsSpec)

/-- ITS FALSE NEIGHBOUR: 'it returns false'. Refute it at one input. -/
def fnAwardsWrong : ChangeSpec := { name := "fnAwards", fn := fun _ => fun
  | [d] => { results := [.lit (.bool false)], args := [d] }
  | _ => none }
def FnAwardsWrongFalsely : Prop := fnAwardsRow.holds Try.pinned (OpenSpec.ofChange fnAwardsWrong)

/-- 'laws.FnExactSettleHand': WHATEVER THE INPUT: true; the input reads as it did. -/
def fnExactSettleHandSpec : ChangeSpec := { name := "fnExactSettleHand", fn := fun _ => fun
  | [d1, d2, d3, d4, d5] => { results := [.lit (.bool true)], args := [d1, d2, d3, d4, d5] }
  | _ => none }
def fnExactSettleHandRow : OpenClaim := { program := "ytipjcodpegpocaa", sum := "43acfaaf4c8e4f632e7e08ae00790b1549b0d6dd8348245f86fe5805bcf3faa5", func := "loop.example/g00910/laws.FnExactSettleHand", spec := "fnExactSettleHand", unfollowed := true, recurses := true, apart := false }
def FnExactSettleHandSaid : Prop := fnExactSettleHandRow.holds Try.pinned (OpenSpec.ofChange fnExactSettleHandSpec)

/-- ITS FALSE NEIGHBOUR: 'it returns false'. Refute it at one input. -/
def fnExactSettleHandWrong : ChangeSpec := { name := "fnExactSettleHand", fn := fun _ => fun
  | [d1, d2, d3, d4, d5] => { results := [.lit (.bool false)], args := [d1, d2, d3, d4, d5] }
  | _ => none }
def FnExactSettleHandWrongFalsely : Prop := fnExactSettleHandRow.holds Try.pinned (OpenSpec.ofChange fnExactSettleHandWrong)

/-- 'laws.FnSettled': WHATEVER THE INPUT: true; the input reads as it did. -/
def fnSettledSpec : ChangeSpec := { name := "fnSettled", fn := fun _ => fun
  | [d] => { results := [.lit (.bool true)], args := [d] }
  | _ => none }
def fnSettledRow : OpenClaim := { program := "ytipjcodpegpocaa", sum := "43acfaaf4c8e4f632e7e08ae00790b1549b0d6dd8348245f86fe5805bcf3faa5", func := "loop.example/g00910/laws.FnSettled", spec := "fnSettled", unfollowed := true, recurses := true, apart := false }
def FnSettledSaid : Prop := fnSettledRow.holds Try.pinned (OpenSpec.ofChange fnSettledSpec)

/-- ITS FALSE NEIGHBOUR: 'it returns false'. Refute it at one input. -/
def fnSettledWrong : ChangeSpec := { name := "fnSettled", fn := fun _ => fun
  | [d] => { results := [.lit (.bool false)], args := [d] }
  | _ => none }
def FnSettledWrongFalsely : Prop := fnSettledRow.holds Try.pinned (OpenSpec.ofChange fnSettledWrong)

/- THE SECOND FORM. 'bulk': how many values and letters a reading holds, each counted each time it is reached (what is shared counts as often as it is met; a slice's spare places count too). A statement '..UptoSaid' is the law's where the arguments, and the package variables that the reading takes, are together of bulk at most 1048576: NARROWER than '..Said'. Prove '..Said' where nothing that the law and all that it calls make is longer than what came in: it says more and counts as full. Else prove '..UptoSaid'. A law counts once. -/
mutual
def uptoBulk {H : Type} : DataW H → Nat
  | .lit (.string bytes) => bytes.length + 1
  | .lit _ => 1
  | .nil => 1
  | .ptr d => uptoBulk d + 1
  | .slice elems spare => uptoBulkAll elems + uptoBulkAll spare + 1
  | .agg parts => uptoBulkAll parts + 1
  | .iface _ d => uptoBulk d + 1
  | .map entries => uptoBulkEntries entries + 1
  | .held _ => 1
def uptoBulkAll {H : Type} : List (DataW H) → Nat
  | [] => 0
  | d :: r => uptoBulk d + uptoBulkAll r
def uptoBulkEntries {H : Type} : List (Lit × DataW H) → Nat
  | [] => 0
  | x :: r => uptoBulkEntry x + uptoBulkEntries r
def uptoBulkEntry {H : Type} : Lit × DataW H → Nat
  | (.string bytes, d) => bytes.length + uptoBulk d + 1
  | (_, d) => uptoBulk d + 1
 end
def uptoSmall : (H : Type) → List (DataW H) → Bool := fun _ ds => decide (uptoBulkAll ds ≤ 1048576)
def OpenSpec.upto (s : _root_.Go.ChangeSpec) : _root_.Go.OpenSpec := { _root_.Go.OpenSpec.ofChange s with cond := some uptoSmall }

/-- 'laws.FnExactSplitChips', WHERE WHAT IT READS IS OF BULK AT MOST 1048576: true; the input reads as it did. -/
def fnExactSplitChipsUptoRow : OpenClaim := { program := "ytipjcodpegpocaa", sum := "43acfaaf4c8e4f632e7e08ae00790b1549b0d6dd8348245f86fe5805bcf3faa5", func := "loop.example/g00910/laws.FnExactSplitChips", spec := "fnExactSplitChips", apart := false, narrowed := true }
def FnExactSplitChipsUptoSaid : Prop := fnExactSplitChipsUptoRow.holds Try.pinned (OpenSpec.upto fnExactSplitChipsSpec)

/-- 'laws.FnExactHighWinners', WHERE WHAT IT READS IS OF BULK AT MOST 1048576: true; the input reads as it did. -/
def fnExactHighWinnersUptoRow : OpenClaim := { program := "ytipjcodpegpocaa", sum := "43acfaaf4c8e4f632e7e08ae00790b1549b0d6dd8348245f86fe5805bcf3faa5", func := "loop.example/g00910/laws.FnExactHighWinners", spec := "fnExactHighWinners", unfollowed := true, recurses := true, apart := false, narrowed := true }
def FnExactHighWinnersUptoSaid : Prop := fnExactHighWinnersUptoRow.holds Try.pinned (OpenSpec.upto fnExactHighWinnersSpec)

/-- 'laws.FnExactLowWinners', WHERE WHAT IT READS IS OF BULK AT MOST 1048576: true; the input reads as it did. -/
def fnExactLowWinnersUptoRow : OpenClaim := { program := "ytipjcodpegpocaa", sum := "43acfaaf4c8e4f632e7e08ae00790b1549b0d6dd8348245f86fe5805bcf3faa5", func := "loop.example/g00910/laws.FnExactLowWinners", spec := "fnExactLowWinners", unfollowed := true, recurses := true, apart := false, narrowed := true }
def FnExactLowWinnersUptoSaid : Prop := fnExactLowWinnersUptoRow.holds Try.pinned (OpenSpec.upto fnExactLowWinnersSpec)

/-- 'laws.FnExactAwardPot', WHERE WHAT IT READS IS OF BULK AT MOST 1048576: true; the input reads as it did. -/
def fnExactAwardPotUptoRow : OpenClaim := { program := "ytipjcodpegpocaa", sum := "43acfaaf4c8e4f632e7e08ae00790b1549b0d6dd8348245f86fe5805bcf3faa5", func := "loop.example/g00910/laws.FnExactAwardPot", spec := "fnExactAwardPot", unfollowed := true, recurses := true, apart := false, narrowed := true }
def FnExactAwardPotUptoSaid : Prop := fnExactAwardPotUptoRow.holds Try.pinned (OpenSpec.upto fnExactAwardPotSpec)

/-- 'laws.FnSplits', WHERE WHAT IT READS IS OF BULK AT MOST 1048576: true; the input reads as it did. -/
def fnSplitsUptoRow : OpenClaim := { program := "ytipjcodpegpocaa", sum := "43acfaaf4c8e4f632e7e08ae00790b1549b0d6dd8348245f86fe5805bcf3faa5", func := "loop.example/g00910/laws.FnSplits", spec := "fnSplits", unfollowed := true, recurses := true, apart := false, narrowed := true }
def FnSplitsUptoSaid : Prop := fnSplitsUptoRow.holds Try.pinned (OpenSpec.upto fnSplitsSpec)

/-- 'laws.FnExactAwardPots', WHERE WHAT IT READS IS OF BULK AT MOST 1048576: true; the input reads as it did. -/
def fnExactAwardPotsUptoRow : OpenClaim := { program := "ytipjcodpegpocaa", sum := "43acfaaf4c8e4f632e7e08ae00790b1549b0d6dd8348245f86fe5805bcf3faa5", func := "loop.example/g00910/laws.FnExactAwardPots", spec := "fnExactAwardPots", unfollowed := true, recurses := true, apart := false, narrowed := true }
def FnExactAwardPotsUptoSaid : Prop := fnExactAwardPotsUptoRow.holds Try.pinned (OpenSpec.upto fnExactAwardPotsSpec)

/-- 'laws.FnAwards', WHERE WHAT IT READS IS OF BULK AT MOST 1048576: true; the input reads as it did. -/
def fnAwardsUptoRow : OpenClaim := { program := "ytipjcodpegpocaa", sum := "43acfaaf4c8e4f632e7e08ae00790b1549b0d6dd8348245f86fe5805bcf3faa5", func := "loop.example/g00910/laws.FnAwards", spec := "fnAwards", unfollowed := true, recurses := true, apart := false, narrowed := true }
def FnAwardsUptoSaid : Prop := fnAwardsUptoRow.holds Try.pinned (OpenSpec.upto fnAwardsSpec)

/-- 'laws.FnExactSettleHand', WHERE WHAT IT READS IS OF BULK AT MOST 1048576: true; the input reads as it did. -/
def fnExactSettleHandUptoRow : OpenClaim := { program := "ytipjcodpegpocaa", sum := "43acfaaf4c8e4f632e7e08ae00790b1549b0d6dd8348245f86fe5805bcf3faa5", func := "loop.example/g00910/laws.FnExactSettleHand", spec := "fnExactSettleHand", unfollowed := true, recurses := true, apart := false, narrowed := true }
def FnExactSettleHandUptoSaid : Prop := fnExactSettleHandUptoRow.holds Try.pinned (OpenSpec.upto fnExactSettleHandSpec)

/-- 'laws.FnSettled', WHERE WHAT IT READS IS OF BULK AT MOST 1048576: true; the input reads as it did. -/
def fnSettledUptoRow : OpenClaim := { program := "ytipjcodpegpocaa", sum := "43acfaaf4c8e4f632e7e08ae00790b1549b0d6dd8348245f86fe5805bcf3faa5", func := "loop.example/g00910/laws.FnSettled", spec := "fnSettled", unfollowed := true, recurses := true, apart := false, narrowed := true }
def FnSettledUptoSaid : Prop := fnSettledUptoRow.holds Try.pinned (OpenSpec.upto fnSettledSpec)

end Rows
end Go.Proofs.Ytipjcodpegpocaa
