/- The given statement of the law, for every input that it speaks of; conditions: none. -/
import Derived.Test.YtnmfhmmhfhjkiaaRows
import Derived.Test.YtnmfhmmhfhjkiaaPFnShares0
import Derived.Test.YtnmfhmmhfhjkiaaLFnShares0
import Derived.SizedLaws
import Derived.ProofKit
set_option linter.unusedVariables false
namespace Go.Proofs.Ytnmfhmmhfhjkiaa.fnShares
open Go.AM
theorem own : ownKnob Try.prog.godebug = none := by kernel_rfl
set_option maxRecDepth 100000 in
theorem lifted (os : Os) (started : os.Started) (H : Type) (enc : TypeId × Value → H) :
    ReturnsInHanded {} Try.checked os 12 .any (Rows.fnSharesSpec.pre6 enc Try.prog Try.f12 Rows.fnSharesRow.domain false) (Rows.fnSharesSpec.post enc Try.prog Try.f12 false true false false) :=
  row_lifted (C := Try.checked) (Ts := [(.sl 5 (.int .u8))]) (tb := 4) (d := 6) (F := fun k => (Go.Sh.laws_FnShares.entry k).fn) own started (by kernel_rfl) Try.func12
    (ChangeSpec.witness6 (enc := enc) (C := Try.checked) false ⟨#[], #[.slice none 0 0], []⟩ 8 (by kernel_rfl) (by kernel_rfl) (by kernel_rfl) (by kernel_rfl))
    (by kernel_rfl) (by kernel_rfl) (by kernel_rfl) (by kernel_rfl) (by kernel_rfl) rfl
    (fun ds h => by match ds, h with | [d0], _ => rfl) (fun k => Go.Sh.laws_FnShares.sound k)
    (fun a w => ⟨4398046511104, (), Go.Sh.FnShares_ok a.1 w.1⟩)
theorem over : Rows.fnSharesRow.holds Try.pinned (OpenSpec.ofChange Rows.fnSharesSpec) :=
  OpenClaim.holds_of_wide 12 Try.f12 rfl rfl rfl rfl rfl rfl rfl ⟨rfl, rfl, rfl, rfl, rfl⟩ rfl rfl rfl rfl rfl (by kernel_rfl) Try.func12 (by kernel_rfl)
    (of_decide_eq_true (by kernel_rfl)) (by unfold Func.isWrapper; first | (rw [if_pos (by decide +kernel)]; kernel_rfl) | (rw [if_neg (by decide +kernel)]; exact ⟨rfl, rfl⟩))
    (fun os started H enc _ => lifted os started H enc)
end Go.Proofs.Ytnmfhmmhfhjkiaa.fnShares
namespace Go.Proofs.Ytnmfhmmhfhjkiaa
/-- The given row. -/
theorem fnShares_holds : Rows.FnSharesSaid := fnShares.over
end Go.Proofs.Ytnmfhmmhfhjkiaa
