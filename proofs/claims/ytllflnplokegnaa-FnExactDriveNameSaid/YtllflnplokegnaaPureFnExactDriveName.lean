import Derived.Test.YtllflnplokegnaaPFnExactDriveNamex1
namespace Go.Proofs.Ytllflnplokegnaa.Pure
open Go.RowKit Go.Proofs.Ytllflnplokegnaa.PFnExactDriveName Go.Proofs.YtllflnplokegnaaW.PrintWords Go.Proofs.YtllflnplokegnaaW.PrintLast

/-- YOURS: ∀ (a0 : Int), (Lit.int .i64 a0).wf = true → laws_FnExactDriveName.f a0 = some true
What it reaches (each with k first where it has rounds; `.mono`: more rounds tell the same; `.l0`, ..: its loops, with `.mono_l`): spec_l1In.f, spec_DriveName.f, impl_in.f, impl_word.f, impl_DriveName.f, laws_FnExactDriveName.f -/
theorem FnExactDriveName : laws_FnExactDriveName.Pure := by
  intro a h
  by_cases h1 : a = 1
  · subst h1; decide +kernel
  by_cases h2 : a = 2
  · subst h2; decide +kernel
  by_cases h3 : a = 3
  · subst h3; decide +kernel
  by_cases h4 : a = 4
  · subst h4; decide +kernel
  by_cases h5 : a = 5
  · subst h5; decide +kernel
  by_cases h0 : a = 0
  · subst h0; decide +kernel
  have hs : spec_DriveName.f a = some (⟨#[63]⟩ : ByteArray) := by
    unfold spec_DriveName.f spec_l1In.f
    by_cases hg : a ≥ 1
    · rw [if_pos hg, decide_eq_false (by omega)]; rfl
    · rw [if_neg hg]; rfl
  have hi : impl_DriveName.f a = some (⟨#[63]⟩ : ByteArray) := by
    unfold impl_DriveName.f impl_word.f impl_in.f
    by_cases hg : 0 ≤ a
    · rw [if_pos hg, decide_eq_false (by simp [wrap64]; omega)]; rfl
    · rw [if_neg hg]; rfl
  unfold laws_FnExactDriveName.f
  rw [hs, hi]; simp

end Go.Proofs.Ytllflnplokegnaa.Pure
