/- The given statement of the law, for every input that it speaks of; conditions: none. -/
import Derived.Test.YtipjcodpegpocaaRows
import Derived.Test.YtipjcodpegpocaaPFnAwards0
import Derived.Test.YtipjcodpegpocaaLFnAwards0
import Derived.SizedLaws
import Derived.ProofKit
set_option linter.unusedVariables false
namespace Go.Proofs.Ytipjcodpegpocaa.fnAwards
open Go.AM
theorem own : ownKnob Try.prog.godebug = none := by kernel_rfl
set_option maxRecDepth 100000 in
theorem lifted (os : Os) (started : os.Started) (H : Type) (enc : TypeId × Value → H) :
    ReturnsInHanded {} Try.checked os 9 .any (Rows.fnAwardsSpec.pre6 enc Try.prog Try.f9 Rows.fnAwardsRow.domain false) (Rows.fnAwardsSpec.post enc Try.prog Try.f9 false true false false) :=
  row_lifted (C := Try.checked) (Ts := [(.sl 5 (.int .u8))]) (tb := 4) (d := 6) (F := fun k => (Go.Sh.laws_FnAwards.entry k).fn) own started (by kernel_rfl) Try.func9
    (ChangeSpec.witness6 (enc := enc) (C := Try.checked) false ⟨#[], #[.slice none 0 0], []⟩ 8 (by kernel_rfl) (by kernel_rfl) (by kernel_rfl) (by kernel_rfl))
    (by kernel_rfl) (by kernel_rfl) (by kernel_rfl) (by kernel_rfl) (by kernel_rfl) rfl
    (fun ds h => by match ds, h with | [d0], _ => rfl) (fun k => Go.Sh.laws_FnAwards.sound k)
    (fun a w => ⟨4398046511104, (), Go.Sh.FnAwards_ok a.1 w.1⟩)
theorem over : Rows.fnAwardsRow.holds Try.pinned (OpenSpec.ofChange Rows.fnAwardsSpec) :=
  OpenClaim.holds_of_wide 9 Try.f9 rfl rfl rfl rfl rfl rfl rfl ⟨rfl, rfl, rfl, rfl, rfl⟩ rfl rfl rfl rfl rfl (by kernel_rfl) Try.func9 (by kernel_rfl)
    (of_decide_eq_true (by kernel_rfl)) (by unfold Func.isWrapper; first | (rw [if_pos (by decide +kernel)]; kernel_rfl) | (rw [if_neg (by decide +kernel)]; exact ⟨rfl, rfl⟩))
    (fun os started H enc _ => lifted os started H enc)
end Go.Proofs.Ytipjcodpegpocaa.fnAwards
namespace Go.Proofs.Ytipjcodpegpocaa
/-- The given row. -/
theorem fnAwards_holds : Rows.FnAwardsSaid := fnAwards.over
end Go.Proofs.Ytipjcodpegpocaa
