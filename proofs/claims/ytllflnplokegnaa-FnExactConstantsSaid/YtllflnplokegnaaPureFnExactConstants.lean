import Derived.Test.YtllflnplokegnaaPFnExactConstantsx1
namespace Go.Proofs.Ytllflnplokegnaa.Pure
open Go.RowKit Go.Proofs.Ytllflnplokegnaa.PFnExactConstants Go.Proofs.YtllflnplokegnaaW.PrintWords Go.Proofs.YtllflnplokegnaaW.PrintLast

/-- YOURS: laws_FnExactConstants.f  = some true
What it reaches (each with k first where it has rounds; `.mono`: more rounds tell the same; `.l0`, ..: its loops, with `.mono_l`): laws_FnExactConstants.f -/
theorem FnExactConstants : laws_FnExactConstants.Pure := by
  rfl

end Go.Proofs.Ytllflnplokegnaa.Pure
