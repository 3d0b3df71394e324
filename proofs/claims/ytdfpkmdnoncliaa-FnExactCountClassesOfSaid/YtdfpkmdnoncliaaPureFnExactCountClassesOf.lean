/- For every input FnExactCountClassesOf answers true: CountClassesOf returns what the reference's returns. No condition. -/
import Derived.Test.YtdfpkmdnoncliaaPFnExactCountClassesOfx1
namespace Go.Proofs.Ytdfpkmdnoncliaa.Pure
open Go.RowKit Go.Proofs.Ytdfpkmdnoncliaa.PFnExactCountClassesOf Go.Proofs.YtdfpkmdnoncliaaW.PrintWords Go.Proofs.YtdfpkmdnoncliaaW.PrintLast

/-- YOURS: ∀ (a0 : Int), (Lit.int .i64 a0).wf = true → laws_FnExactCountClassesOf.f a0 = some true
What it reaches (each with k first where it has rounds; `.mono`: more rounds tell the same; `.l0`, ..: its loops, with `.mono_l`): spec_l01In.f, spec_CountClassesOf.f, impl_CountClassesOf.f, laws_FnExactCountClassesOf.f -/
theorem FnExactCountClassesOf : laws_FnExactCountClassesOf.Pure := by
  intro a0 _
  by_cases h1 : a0 = 1
  · subst h1; simp [laws_FnExactCountClassesOf.f, spec_CountClassesOf.f, spec_l01In.f, impl_CountClassesOf.f, rd, wrap64]
  by_cases h2 : a0 = 2
  · subst h2; simp [laws_FnExactCountClassesOf.f, spec_CountClassesOf.f, spec_l01In.f, impl_CountClassesOf.f, rd, wrap64]
  by_cases h3 : a0 = 3
  · subst h3; simp [laws_FnExactCountClassesOf.f, spec_CountClassesOf.f, spec_l01In.f, impl_CountClassesOf.f, rd, wrap64]
  have hs : spec_CountClassesOf.f a0 = some (0, 2) := by
    unfold spec_CountClassesOf.f spec_l01In.f
    by_cases h : a0 ≥ 1
    · rw [if_pos h]
      have : decide (a0 ≤ 3) = false := decide_eq_false (by omega)
      simp [this]
    · rw [if_neg h]; simp
  have hi : impl_CountClassesOf.f a0 = some (0, 2) := by
    unfold impl_CountClassesOf.f
    rw [if_neg h1, if_neg h2, if_neg h3]
  unfold laws_FnExactCountClassesOf.f
  rw [hs, hi]; simp

end Go.Proofs.Ytdfpkmdnoncliaa.Pure
