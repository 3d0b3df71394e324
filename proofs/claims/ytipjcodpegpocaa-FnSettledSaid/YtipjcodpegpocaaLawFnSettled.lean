/- The given statement of the law, for every input that it speaks of; conditions: none. -/
import Derived.Test.YtipjcodpegpocaaRows
import Derived.Test.YtipjcodpegpocaaPFnSettled1
import Derived.Test.YtipjcodpegpocaaLFnSettled0
import Derived.SizedLaws
import Derived.ProofKit
set_option linter.unusedVariables false
namespace Go.Proofs.Ytipjcodpegpocaa.fnSettled
open Go.AM
theorem own : ownKnob Try.prog.godebug = none := by kernel_rfl
set_option maxRecDepth 100000 in
theorem lifted (os : Os) (started : os.Started) (H : Type) (enc : TypeId × Value → H) :
    ReturnsInHanded {} Try.checked os 11 .any (Rows.fnSettledSpec.pre6 enc Try.prog Try.f11 Rows.fnSettledRow.domain false) (Rows.fnSettledSpec.post enc Try.prog Try.f11 false true false false) :=
  row_lifted (C := Try.checked) (Ts := [(.sl 5 (.int .u8))]) (tb := 4) (d := 6) (F := fun k => (Go.Sh.laws_FnSettled.entry k).fn) own started (by kernel_rfl) Try.func11
    (ChangeSpec.witness6 (enc := enc) (C := Try.checked) false ⟨#[], #[.slice none 0 0], []⟩ 8 (by kernel_rfl) (by kernel_rfl) (by kernel_rfl) (by kernel_rfl))
    (by kernel_rfl) (by kernel_rfl) (by kernel_rfl) (by kernel_rfl) (by kernel_rfl) rfl
    (fun ds h => by match ds, h with | [d0], _ => rfl) (fun k => Go.Sh.laws_FnSettled.sound k)
    (fun a w => ⟨4398046511104, (), Go.Sh.FnSettled_ok a.1 w.1⟩)
theorem over : Rows.fnSettledRow.holds Try.pinned (OpenSpec.ofChange Rows.fnSettledSpec) :=
  OpenClaim.holds_of_wide 11 Try.f11 rfl rfl rfl rfl rfl rfl rfl ⟨rfl, rfl, rfl, rfl, rfl⟩ rfl rfl rfl rfl rfl (by kernel_rfl) Try.func11 (by kernel_rfl)
    (of_decide_eq_true (by kernel_rfl)) (by unfold Func.isWrapper; first | (rw [if_pos (by decide +kernel)]; kernel_rfl) | (rw [if_neg (by decide +kernel)]; exact ⟨rfl, rfl⟩))
    (fun os started H enc _ => lifted os started H enc)
end Go.Proofs.Ytipjcodpegpocaa.fnSettled
namespace Go.Proofs.Ytipjcodpegpocaa
/-- The given row. -/
theorem fnSettled_holds : Rows.FnSettledSaid := fnSettled.over
end Go.Proofs.Ytipjcodpegpocaa
