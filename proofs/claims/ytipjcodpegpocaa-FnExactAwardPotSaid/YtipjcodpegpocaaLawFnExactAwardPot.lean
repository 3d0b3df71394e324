/- The given statement of the law, for every input that it speaks of; conditions: none. -/
import Derived.Test.YtipjcodpegpocaaRows
import Derived.Test.YtipjcodpegpocaaPFnExactAwardPot0
import Derived.Test.YtipjcodpegpocaaLFnExactAwardPot0
import Derived.SizedLaws
import Derived.ProofKit
set_option linter.unusedVariables false
namespace Go.Proofs.Ytipjcodpegpocaa.fnExactAwardPot
open Go.AM
theorem own : ownKnob Try.prog.godebug = none := by kernel_rfl
set_option maxRecDepth 100000 in
theorem lifted (os : Os) (started : os.Started) (H : Type) (enc : TypeId × Value → H) :
    ReturnsInHanded {} Try.checked os 6 .any (Rows.fnExactAwardPotSpec.pre6 enc Try.prog Try.f6 Rows.fnExactAwardPotRow.domain false) (Rows.fnExactAwardPotSpec.post enc Try.prog Try.f6 false true false false) :=
  row_lifted (C := Try.checked) (Ts := [(.pair (.int .i64) (.pair (.sl 2 (.int .i64)) .unit)), (.sl 2 (.int .i64)), (.sl 2 (.int .i64)), (.int .i64)]) (tb := 4) (d := 6) (F := fun k => (Go.Sh.laws_FnExactAwardPot.entry k).fn) own started (by kernel_rfl) Try.func6
    (ChangeSpec.witness6 (enc := enc) (C := Try.checked) false ⟨#[], #[.agg #[.int .i64 0, .slice none 0 0], .slice none 0 0, .slice none 0 0, .int .i64 0], []⟩ 8 (by kernel_rfl) (by kernel_rfl) (by kernel_rfl) (by kernel_rfl))
    (by kernel_rfl) (by kernel_rfl) (by kernel_rfl) (by kernel_rfl) (by kernel_rfl) rfl
    (fun ds h => by match ds, h with | [d0, d1, d2, d3], _ => rfl) (fun k => Go.Sh.laws_FnExactAwardPot.sound k)
    (fun a w => ⟨4398046511104, (), Go.Sh.FnExactAwardPot_ok a.1 a.2.1 a.2.2.1 a.2.2.2.1 w.1⟩)
theorem over : Rows.fnExactAwardPotRow.holds Try.pinned (OpenSpec.ofChange Rows.fnExactAwardPotSpec) :=
  OpenClaim.holds_of_wide 6 Try.f6 rfl rfl rfl rfl rfl rfl rfl ⟨rfl, rfl, rfl, rfl, rfl⟩ rfl rfl rfl rfl rfl (by kernel_rfl) Try.func6 (by kernel_rfl)
    (of_decide_eq_true (by kernel_rfl)) (by unfold Func.isWrapper; first | (rw [if_pos (by decide +kernel)]; kernel_rfl) | (rw [if_neg (by decide +kernel)]; exact ⟨rfl, rfl⟩))
    (fun os started H enc _ => lifted os started H enc)
end Go.Proofs.Ytipjcodpegpocaa.fnExactAwardPot
namespace Go.Proofs.Ytipjcodpegpocaa
/-- The given row. -/
theorem fnExactAwardPot_holds : Rows.FnExactAwardPotSaid := fnExactAwardPot.over
end Go.Proofs.Ytipjcodpegpocaa
