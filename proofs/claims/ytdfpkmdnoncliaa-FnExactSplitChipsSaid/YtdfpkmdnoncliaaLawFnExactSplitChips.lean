/- The given statement of the law, for every input that it speaks of; conditions: none. -/
import Derived.Test.YtdfpkmdnoncliaaRows
import Derived.Test.YtdfpkmdnoncliaaPFnExactSplitChips0
import Derived.Test.YtdfpkmdnoncliaaLFnExactSplitChips0
import Derived.SizedLaws
import Derived.ProofKit
set_option linter.unusedVariables false
namespace Go.Proofs.Ytdfpkmdnoncliaa.fnExactSplitChips
open Go.AM
theorem own : ownKnob Try.prog.godebug = none := by kernel_rfl
set_option maxRecDepth 100000 in
theorem lifted (os : Os) (started : os.Started) (H : Type) (enc : TypeId × Value → H) :
    ReturnsInHanded {} Try.checked os 9 .any (Rows.fnExactSplitChipsSpec.pre6 enc Try.prog Try.f9 Rows.fnExactSplitChipsRow.domain false) (Rows.fnExactSplitChipsSpec.post enc Try.prog Try.f9 false true false false) :=
  row_lifted (C := Try.checked) (Ts := [(.int .i64), (.sl 2 (.int .i64)), (.int .i64), (.int .i64)]) (tb := 4) (d := 6) (F := fun k => (Go.Sh.laws_FnExactSplitChips.entry k).fn) own started (by kernel_rfl) Try.func9
    (ChangeSpec.witness6 (enc := enc) (C := Try.checked) false ⟨#[], #[.int .i64 0, .slice none 0 0, .int .i64 0, .int .i64 0], []⟩ 8 (by kernel_rfl) (by kernel_rfl) (by kernel_rfl) (by kernel_rfl))
    (by kernel_rfl) (by kernel_rfl) (by kernel_rfl) (by kernel_rfl) (by kernel_rfl) rfl
    (fun ds h => by match ds, h with | [d0, d1, d2, d3], _ => rfl) (fun k => Go.Sh.laws_FnExactSplitChips.sound k)
    (fun a w => ⟨4398046511104, (), Go.Sh.FnExactSplitChips_ok a.1 a.2.1 a.2.2.1 a.2.2.2.1⟩)
theorem over : Rows.fnExactSplitChipsRow.holds Try.pinned (OpenSpec.ofChange Rows.fnExactSplitChipsSpec) :=
  OpenClaim.holds_of_wide 9 Try.f9 rfl rfl rfl rfl rfl rfl rfl ⟨rfl, rfl, rfl, rfl, rfl⟩ rfl rfl rfl rfl rfl (by kernel_rfl) Try.func9 (by kernel_rfl)
    (of_decide_eq_true (by kernel_rfl)) (by unfold Func.isWrapper; first | (rw [if_pos (by decide +kernel)]; kernel_rfl) | (rw [if_neg (by decide +kernel)]; exact ⟨rfl, rfl⟩))
    (fun os started H enc _ => lifted os started H enc)
end Go.Proofs.Ytdfpkmdnoncliaa.fnExactSplitChips
namespace Go.Proofs.Ytdfpkmdnoncliaa
/-- The given row. -/
theorem fnExactSplitChips_holds : Rows.FnExactSplitChipsSaid := fnExactSplitChips.over
end Go.Proofs.Ytdfpkmdnoncliaa
