/-
  No cell of these rows narrows 'for every input' (looked for: loops, veiled, ifaces, maps, wideKeys, modest, calm, conditions, laid).
  DERIVED. THE GIVEN ROWS OF THIS SEAT. 7 by the template 'for every input the law returns true; each argument reads behind the call as it read before'; 0 by the template 'total and deterministic' (their statements: YtdfpkmdnoncliaaTotals.lean).
  GIVEN WITH THE SEED: the statements are not yours to turn. If you find one false, say at which input.
  Laid BY PROGRAM, IN A SANDBOX (cutbox-rows.mjs): the forced cells as the released guide's own fill.sh prints them over the translation 072517ad7dd4dafc… (all of the seat's roots in one cut). By AI agents, Wed Nov 11 2026. No macro, syntax, notation, axiom, sorry.
-/
import Derived.Test.YtdfpkmdnoncliaaChecked
import GoSem.Claim
import GoSem.ClaimJoined
import GoSem.ClaimMapViews
import Derived.JoinedTies
import Derived.KernelRfl
namespace Go.Proofs.Ytdfpkmdnoncliaa
/- THE CELL 'sum', in the pinned program and in every row, IS THE sha256 OF THE DUMP (.gsa) THAT YtdfpkmdnoncliaaProg.lean LOADS. Nothing in Lean hashes anything: it is a label: what it is worth is what the hold of that sum in a sandbox is worth. -/
noncomputable def Try.pinned : Pinned := { name := "ytdfpkmdnoncliaa", sum := "072517ad7dd4dafc53b5e3511874b5aa0cfda969ff49b14cf2cde8fae9bbc11b", checked := Try.checked }
namespace Rows
def none {H : Type} : Left H := { results := [], args := [] }

/-- 'laws.FnExactCountFlops': WHATEVER THE INPUT: true; the input reads as it did. -/
def fnExactCountFlopsSpec : ChangeSpec := { name := "fnExactCountFlops", fn := fun _ => fun
  | [] => { results := [.lit (.bool true)], args := [] }
  | _ => none }
def fnExactCountFlopsRow : OpenClaim := { program := "ytdfpkmdnoncliaa", sum := "072517ad7dd4dafc53b5e3511874b5aa0cfda969ff49b14cf2cde8fae9bbc11b", func := "loop.example/g00910/laws.FnExactCountFlops", spec := "fnExactCountFlops", apart := false }
def FnExactCountFlopsSaid : Prop := fnExactCountFlopsRow.holds Try.pinned (OpenSpec.ofChange fnExactCountFlopsSpec)

/-- ITS FALSE NEIGHBOUR: 'it returns false'. Refute it at one input. -/
def fnExactCountFlopsWrong : ChangeSpec := { name := "fnExactCountFlops", fn := fun _ => fun
  | [] => { results := [.lit (.bool false)], args := [] }
  | _ => none }
def FnExactCountFlopsWrongFalsely : Prop := fnExactCountFlopsRow.holds Try.pinned (OpenSpec.ofChange fnExactCountFlopsWrong)

/-- 'laws.FnExactCountClassesOf': WHATEVER THE INPUT: true; the input reads as it did. -/
def fnExactCountClassesOfSpec : ChangeSpec := { name := "fnExactCountClassesOf", fn := fun _ => fun
  | [d] => { results := [.lit (.bool true)], args := [d] }
  | _ => none }
def fnExactCountClassesOfRow : OpenClaim := { program := "ytdfpkmdnoncliaa", sum := "072517ad7dd4dafc53b5e3511874b5aa0cfda969ff49b14cf2cde8fae9bbc11b", func := "loop.example/g00910/laws.FnExactCountClassesOf", spec := "fnExactCountClassesOf", apart := false }
def FnExactCountClassesOfSaid : Prop := fnExactCountClassesOfRow.holds Try.pinned (OpenSpec.ofChange fnExactCountClassesOfSpec)

/-- ITS FALSE NEIGHBOUR: 'it returns false'. Refute it at one input. -/
def fnExactCountClassesOfWrong : ChangeSpec := { name := "fnExactCountClassesOf", fn := fun _ => fun
  | [d] => { results := [.lit (.bool false)], args := [d] }
  | _ => none }
def FnExactCountClassesOfWrongFalsely : Prop := fnExactCountClassesOfRow.holds Try.pinned (OpenSpec.ofChange fnExactCountClassesOfWrong)

/-- 'laws.FnExactArePayments': WHATEVER THE INPUT: true; the input reads as it did. -/
def fnExactArePaymentsSpec : ChangeSpec := { name := "fnExactArePayments", fn := fun _ => fun
  | [d1, d2] => { results := [.lit (.bool true)], args := [d1, d2] }
  | _ => none }
def fnExactArePaymentsRow : OpenClaim := { program := "ytdfpkmdnoncliaa", sum := "072517ad7dd4dafc53b5e3511874b5aa0cfda969ff49b14cf2cde8fae9bbc11b", func := "loop.example/g00910/laws.FnExactArePayments", spec := "fnExactArePayments", apart := false }
def FnExactArePaymentsSaid : Prop := fnExactArePaymentsRow.holds Try.pinned (OpenSpec.ofChange fnExactArePaymentsSpec)

/-- ITS FALSE NEIGHBOUR: 'it returns false'. Refute it at one input. -/
def fnExactArePaymentsWrong : ChangeSpec := { name := "fnExactArePayments", fn := fun _ => fun
  | [d1, d2] => { results := [.lit (.bool false)], args := [d1, d2] }
  | _ => none }
def FnExactArePaymentsWrongFalsely : Prop := fnExactArePaymentsRow.holds Try.pinned (OpenSpec.ofChange fnExactArePaymentsWrong)

/-- 'laws.FnExactNetResult': WHATEVER THE INPUT: true; the input reads as it did. -/
def fnExactNetResultSpec : ChangeSpec := { name := "fnExactNetResult", fn := fun _ => fun
  | [d1, d2] => { results := [.lit (.bool true)], args := [d1, d2] }
  | _ => none }
def fnExactNetResultRow : OpenClaim := { program := "ytdfpkmdnoncliaa", sum := "072517ad7dd4dafc53b5e3511874b5aa0cfda969ff49b14cf2cde8fae9bbc11b", func := "loop.example/g00910/laws.FnExactNetResult", spec := "fnExactNetResult", apart := false }
def FnExactNetResultSaid : Prop := fnExactNetResultRow.holds Try.pinned (OpenSpec.ofChange fnExactNetResultSpec)

/-- ITS FALSE NEIGHBOUR: 'it returns false'. Refute it at one input. -/
def fnExactNetResultWrong : ChangeSpec := { name := "fnExactNetResult", fn := fun _ => fun
  | [d1, d2] => { results := [.lit (.bool false)], args := [d1, d2] }
  | _ => none }
def FnExactNetResultWrongFalsely : Prop := fnExactNetResultRow.holds Try.pinned (OpenSpec.ofChange fnExactNetResultWrong)

/-- 'laws.FnExactExchangeCards': WHATEVER THE INPUT: true; the input reads as it did. -/
def fnExactExchangeCardsSpec : ChangeSpec := { name := "fnExactExchangeCards", fn := fun _ => fun
  | [d1, d2] => { results := [.lit (.bool true)], args := [d1, d2] }
  | _ => none }
def fnExactExchangeCardsRow : OpenClaim := { program := "ytdfpkmdnoncliaa", sum := "072517ad7dd4dafc53b5e3511874b5aa0cfda969ff49b14cf2cde8fae9bbc11b", func := "loop.example/g00910/laws.FnExactExchangeCards", spec := "fnExactExchangeCards", apart := false }
def FnExactExchangeCardsSaid : Prop := fnExactExchangeCardsRow.holds Try.pinned (OpenSpec.ofChange fnExactExchangeCardsSpec)

/-- ITS FALSE NEIGHBOUR: 'it returns false'. Refute it at one input. -/
def fnExactExchangeCardsWrong : ChangeSpec := { name := "fnExactExchangeCards", fn := fun _ => fun
  | [d1, d2] => { results := [.lit (.bool false)], args := [d1, d2] }
  | _ => none }
def FnExactExchangeCardsWrongFalsely : Prop := fnExactExchangeCardsRow.holds Try.pinned (OpenSpec.ofChange fnExactExchangeCardsWrong)

/-- 'laws.FnExactUncalledOf': WHATEVER THE INPUT: true; the input reads as it did. -/
def fnExactUncalledOfSpec : ChangeSpec := { name := "fnExactUncalledOf", fn := fun _ => fun
  | [d1, d2] => { results := [.lit (.bool true)], args := [d1, d2] }
  | _ => none }
def fnExactUncalledOfRow : OpenClaim := { program := "ytdfpkmdnoncliaa", sum := "072517ad7dd4dafc53b5e3511874b5aa0cfda969ff49b14cf2cde8fae9bbc11b", func := "loop.example/g00910/laws.FnExactUncalledOf", spec := "fnExactUncalledOf", apart := false }
def FnExactUncalledOfSaid : Prop := fnExactUncalledOfRow.holds Try.pinned (OpenSpec.ofChange fnExactUncalledOfSpec)

/-- ITS FALSE NEIGHBOUR: 'it returns false'. Refute it at one input. -/
def fnExactUncalledOfWrong : ChangeSpec := { name := "fnExactUncalledOf", fn := fun _ => fun
  | [d1, d2] => { results := [.lit (.bool false)], args := [d1, d2] }
  | _ => none }
def FnExactUncalledOfWrongFalsely : Prop := fnExactUncalledOfRow.holds Try.pinned (OpenSpec.ofChange fnExactUncalledOfWrong)

/-- 'laws.FnExactSplitChips': WHATEVER THE INPUT: true; the input reads as it did. -/
def fnExactSplitChipsSpec : ChangeSpec := { name := "fnExactSplitChips", fn := fun _ => fun
  | [d1, d2, d3, d4] => { results := [.lit (.bool true)], args := [d1, d2, d3, d4] }
  | _ => none }
def fnExactSplitChipsRow : OpenClaim := { program := "ytdfpkmdnoncliaa", sum := "072517ad7dd4dafc53b5e3511874b5aa0cfda969ff49b14cf2cde8fae9bbc11b", func := "loop.example/g00910/laws.FnExactSplitChips", spec := "fnExactSplitChips", apart := false }
def FnExactSplitChipsSaid : Prop := fnExactSplitChipsRow.holds Try.pinned (OpenSpec.ofChange fnExactSplitChipsSpec)

/-- ITS FALSE NEIGHBOUR: 'it returns false'. Refute it at one input. -/
def fnExactSplitChipsWrong : ChangeSpec := { name := "fnExactSplitChips", fn := fun _ => fun
  | [d1, d2, d3, d4] => { results := [.lit (.bool false)], args := [d1, d2, d3, d4] }
  | _ => none }
def FnExactSplitChipsWrongFalsely : Prop := fnExactSplitChipsRow.holds Try.pinned (OpenSpec.ofChange fnExactSplitChipsWrong)

/- THE SECOND FORM. 'bulk': how many values and letters a reading holds, each counted each time it is reached (what is shared counts as often as it is met; a slice's spare places count too). A statement '..UptoSaid' is the law's where the arguments, and the package variables that the reading takes, are together of bulk at most 1048576: NARROWER than '..Said'. Prove '..Said' where nothing that the law and all that it calls make is longer than what came in: it says more and counts as full. Else prove '..UptoSaid'. A law counts once. -/
mutual
def uptoBulk {H : Type} : DataW H → Nat
  | .lit (.string bytes) => bytes.length + 1
  | .lit _ => 1
  | .nil => 1
  | .ptr d => uptoBulk d + 1
  | .slice elems spare => uptoBulkAll elems + uptoBulkAll spare + 1
  | .agg parts => uptoBulkAll parts + 1
  | .iface _ d => uptoBulk d + 1
  | .map entries => uptoBulkEntries entries + 1
  | .held _ => 1
def uptoBulkAll {H : Type} : List (DataW H) → Nat
  | [] => 0
  | d :: r => uptoBulk d + uptoBulkAll r
def uptoBulkEntries {H : Type} : List (Lit × DataW H) → Nat
  | [] => 0
  | x :: r => uptoBulkEntry x + uptoBulkEntries r
def uptoBulkEntry {H : Type} : Lit × DataW H → Nat
  | (.string bytes, d) => bytes.length + uptoBulk d + 1
  | (_, d) => uptoBulk d + 1
 end
def uptoSmall : (H : Type) → List (DataW H) → Bool := fun _ ds => decide (uptoBulkAll ds ≤ 1048576)
def OpenSpec.upto (s : _root_.Go.ChangeSpec) : _root_.Go.OpenSpec := { _root_.Go.OpenSpec.ofChange s with cond := some uptoSmall }

/-- 'laws.FnExactCountFlops', WHERE WHAT IT READS IS OF BULK AT MOST 1048576: true; the input reads as it did. -/
def fnExactCountFlopsUptoRow : OpenClaim := { program := "ytdfpkmdnoncliaa", sum := "072517ad7dd4dafc53b5e3511874b5aa0cfda969ff49b14cf2cde8fae9bbc11b", func := "loop.example/g00910/laws.FnExactCountFlops", spec := "fnExactCountFlops", apart := false, narrowed := true }
def FnExactCountFlopsUptoSaid : Prop := fnExactCountFlopsUptoRow.holds Try.pinned (OpenSpec.upto fnExactCountFlopsSpec)

/-- 'laws.FnExactCountClassesOf', WHERE WHAT IT READS IS OF BULK AT MOST 1048576: true; the input reads as it did. -/
def fnExactCountClassesOfUptoRow : OpenClaim := { program := "ytdfpkmdnoncliaa", sum := "072517ad7dd4dafc53b5e3511874b5aa0cfda969ff49b14cf2cde8fae9bbc11b", func := "loop.example/g00910/laws.FnExactCountClassesOf", spec := "fnExactCountClassesOf", apart := false, narrowed := true }
def FnExactCountClassesOfUptoSaid : Prop := fnExactCountClassesOfUptoRow.holds Try.pinned (OpenSpec.upto fnExactCountClassesOfSpec)

/-- 'laws.FnExactArePayments', WHERE WHAT IT READS IS OF BULK AT MOST 1048576: true; the input reads as it did. -/
def fnExactArePaymentsUptoRow : OpenClaim := { program := "ytdfpkmdnoncliaa", sum := "072517ad7dd4dafc53b5e3511874b5aa0cfda969ff49b14cf2cde8fae9bbc11b", func := "loop.example/g00910/laws.FnExactArePayments", spec := "fnExactArePayments", apart := false, narrowed := true }
def FnExactArePaymentsUptoSaid : Prop := fnExactArePaymentsUptoRow.holds Try.pinned (OpenSpec.upto fnExactArePaymentsSpec)

/-- 'laws.FnExactNetResult', WHERE WHAT IT READS IS OF BULK AT MOST 1048576: true; the input reads as it did. -/
def fnExactNetResultUptoRow : OpenClaim := { program := "ytdfpkmdnoncliaa", sum := "072517ad7dd4dafc53b5e3511874b5aa0cfda969ff49b14cf2cde8fae9bbc11b", func := "loop.example/g00910/laws.FnExactNetResult", spec := "fnExactNetResult", apart := false, narrowed := true }
def FnExactNetResultUptoSaid : Prop := fnExactNetResultUptoRow.holds Try.pinned (OpenSpec.upto fnExactNetResultSpec)

/-- 'laws.FnExactExchangeCards', WHERE WHAT IT READS IS OF BULK AT MOST 1048576: true; the input reads as it did. -/
def fnExactExchangeCardsUptoRow : OpenClaim := { program := "ytdfpkmdnoncliaa", sum := "072517ad7dd4dafc53b5e3511874b5aa0cfda969ff49b14cf2cde8fae9bbc11b", func := "loop.example/g00910/laws.FnExactExchangeCards", spec := "fnExactExchangeCards", apart := false, narrowed := true }
def FnExactExchangeCardsUptoSaid : Prop := fnExactExchangeCardsUptoRow.holds Try.pinned (OpenSpec.upto fnExactExchangeCardsSpec)

/-- 'laws.FnExactUncalledOf', WHERE WHAT IT READS IS OF BULK AT MOST 1048576: true; the input reads as it did. -/
def fnExactUncalledOfUptoRow : OpenClaim := { program := "ytdfpkmdnoncliaa", sum := "072517ad7dd4dafc53b5e3511874b5aa0cfda969ff49b14cf2cde8fae9bbc11b", func := "loop.example/g00910/laws.FnExactUncalledOf", spec := "fnExactUncalledOf", apart := false, narrowed := true }
def FnExactUncalledOfUptoSaid : Prop := fnExactUncalledOfUptoRow.holds Try.pinned (OpenSpec.upto fnExactUncalledOfSpec)

/-- 'laws.FnExactSplitChips', WHERE WHAT IT READS IS OF BULK AT MOST 1048576: true; the input reads as it did. -/
def fnExactSplitChipsUptoRow : OpenClaim := { program := "ytdfpkmdnoncliaa", sum := "072517ad7dd4dafc53b5e3511874b5aa0cfda969ff49b14cf2cde8fae9bbc11b", func := "loop.example/g00910/laws.FnExactSplitChips", spec := "fnExactSplitChips", apart := false, narrowed := true }
def FnExactSplitChipsUptoSaid : Prop := fnExactSplitChipsUptoRow.holds Try.pinned (OpenSpec.upto fnExactSplitChipsSpec)

end Rows
end Go.Proofs.Ytdfpkmdnoncliaa
