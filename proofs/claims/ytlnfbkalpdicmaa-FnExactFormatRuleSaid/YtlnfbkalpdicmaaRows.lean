/-
  NARROWER THAN 'FOR EVERY INPUT', by the rows' own cells (each row's printed sentence says how): FnExactEqualBranches: loops · FnExactEqualProgram: loops · FnExactFunctionKind: loops · FnExactApplyBindings: loops · FnExactMatchExpr: loops · FnExactFormatExpr: loops · FnExactRenamingOf: loops · FnExactFormatRule: loops · FnExactConArity: loops.
  DERIVED. THE GIVEN ROWS OF THIS SEAT. 9 by the template 'for every input the law returns true; each argument reads behind the call as it read before'; 0 by the template 'total and deterministic' (their statements: YtlnfbkalpdicmaaTotals.lean).
  GIVEN WITH THE SEED: the statements are not yours to turn. If you find one false, say at which input.
  Laid BY PROGRAM, IN A SANDBOX (cutbox-rows.mjs): the forced cells as the released guide's own fill.sh prints them over the translation 508cfed9d0dbb475… (all of the seat's roots in one cut). By AI agents, Wed Nov 11 2026. No macro, syntax, notation, axiom, sorry.
-/
import Derived.Test.YtlnfbkalpdicmaaChecked
import GoSem.Claim
import GoSem.ClaimJoined
import GoSem.ClaimMapViews
import Derived.JoinedTies
import Derived.KernelRfl
namespace Go.Proofs.Ytlnfbkalpdicmaa
/- THE CELL 'sum', in the pinned program and in every row, IS THE sha256 OF THE DUMP (.gsa) THAT YtlnfbkalpdicmaaProg.lean LOADS. Nothing in Lean hashes anything: it is a label: what it is worth is what the hold of that sum in a sandbox is worth. -/
noncomputable def Try.pinned : Pinned := { name := "ytlnfbkalpdicmaa", sum := "508cfed9d0dbb4756f4fc4cb14aac75314ea1ce830d9f9f5cbfd46a1132267ee", checked := Try.checked }
namespace Rows
def none {H : Type} : Left H := { results := [], args := [] }

/-- 'laws.FnExactEqualBranches': WHATEVER THE INPUT: true; the input reads as it did. -/
def fnExactEqualBranchesSpec : ChangeSpec := { name := "fnExactEqualBranches", fn := fun _ => fun
  | [d1, d2] => { results := [.lit (.bool true)], args := [d1, d2] }
  | _ => none }
def fnExactEqualBranchesRow : OpenClaim := { program := "ytlnfbkalpdicmaa", sum := "508cfed9d0dbb4756f4fc4cb14aac75314ea1ce830d9f9f5cbfd46a1132267ee", func := "loop.example/g00584/laws.FnExactEqualBranches", spec := "fnExactEqualBranches", unfollowed := true, recurses := true, loops := true, apart := false }
def FnExactEqualBranchesSaid : Prop := fnExactEqualBranchesRow.holds Try.pinned (OpenSpec.ofChange fnExactEqualBranchesSpec)

/-- ITS FALSE NEIGHBOUR: 'it returns false'. Refute it at one input. -/
def fnExactEqualBranchesWrong : ChangeSpec := { name := "fnExactEqualBranches", fn := fun _ => fun
  | [d1, d2] => { results := [.lit (.bool false)], args := [d1, d2] }
  | _ => none }
def FnExactEqualBranchesWrongFalsely : Prop := fnExactEqualBranchesRow.holds Try.pinned (OpenSpec.ofChange fnExactEqualBranchesWrong)

/-- 'laws.FnExactEqualProgram': WHATEVER THE INPUT: true; the input reads as it did. -/
def fnExactEqualProgramSpec : ChangeSpec := { name := "fnExactEqualProgram", fn := fun _ => fun
  | [d1, d2] => { results := [.lit (.bool true)], args := [d1, d2] }
  | _ => none }
def fnExactEqualProgramRow : OpenClaim := { program := "ytlnfbkalpdicmaa", sum := "508cfed9d0dbb4756f4fc4cb14aac75314ea1ce830d9f9f5cbfd46a1132267ee", func := "loop.example/g00584/laws.FnExactEqualProgram", spec := "fnExactEqualProgram", unfollowed := true, recurses := true, loops := true, apart := false }
def FnExactEqualProgramSaid : Prop := fnExactEqualProgramRow.holds Try.pinned (OpenSpec.ofChange fnExactEqualProgramSpec)

/-- ITS FALSE NEIGHBOUR: 'it returns false'. Refute it at one input. -/
def fnExactEqualProgramWrong : ChangeSpec := { name := "fnExactEqualProgram", fn := fun _ => fun
  | [d1, d2] => { results := [.lit (.bool false)], args := [d1, d2] }
  | _ => none }
def FnExactEqualProgramWrongFalsely : Prop := fnExactEqualProgramRow.holds Try.pinned (OpenSpec.ofChange fnExactEqualProgramWrong)

/-- 'laws.FnExactFunctionKind': WHATEVER THE INPUT: true; the input reads as it did. -/
def fnExactFunctionKindSpec : ChangeSpec := { name := "fnExactFunctionKind", fn := fun _ => fun
  | [d1, d2] => { results := [.lit (.bool true)], args := [d1, d2] }
  | _ => none }
def fnExactFunctionKindRow : OpenClaim := { program := "ytlnfbkalpdicmaa", sum := "508cfed9d0dbb4756f4fc4cb14aac75314ea1ce830d9f9f5cbfd46a1132267ee", func := "loop.example/g00584/laws.FnExactFunctionKind", spec := "fnExactFunctionKind", unfollowed := true, recurses := true, loops := true, apart := false }
def FnExactFunctionKindSaid : Prop := fnExactFunctionKindRow.holds Try.pinned (OpenSpec.ofChange fnExactFunctionKindSpec)

/-- ITS FALSE NEIGHBOUR: 'it returns false'. Refute it at one input. -/
def fnExactFunctionKindWrong : ChangeSpec := { name := "fnExactFunctionKind", fn := fun _ => fun
  | [d1, d2] => { results := [.lit (.bool false)], args := [d1, d2] }
  | _ => none }
def FnExactFunctionKindWrongFalsely : Prop := fnExactFunctionKindRow.holds Try.pinned (OpenSpec.ofChange fnExactFunctionKindWrong)

/-- 'laws.FnExactApplyBindings': WHATEVER THE INPUT: true; the input reads as it did. -/
def fnExactApplyBindingsSpec : ChangeSpec := { name := "fnExactApplyBindings", fn := fun _ => fun
  | [d1, d2] => { results := [.lit (.bool true)], args := [d1, d2] }
  | _ => none }
def fnExactApplyBindingsRow : OpenClaim := { program := "ytlnfbkalpdicmaa", sum := "508cfed9d0dbb4756f4fc4cb14aac75314ea1ce830d9f9f5cbfd46a1132267ee", func := "loop.example/g00584/laws.FnExactApplyBindings", spec := "fnExactApplyBindings", recurses := true, loops := true, apart := false }
def FnExactApplyBindingsSaid : Prop := fnExactApplyBindingsRow.holds Try.pinned (OpenSpec.ofChange fnExactApplyBindingsSpec)

/-- ITS FALSE NEIGHBOUR: 'it returns false'. Refute it at one input. -/
def fnExactApplyBindingsWrong : ChangeSpec := { name := "fnExactApplyBindings", fn := fun _ => fun
  | [d1, d2] => { results := [.lit (.bool false)], args := [d1, d2] }
  | _ => none }
def FnExactApplyBindingsWrongFalsely : Prop := fnExactApplyBindingsRow.holds Try.pinned (OpenSpec.ofChange fnExactApplyBindingsWrong)

/-- 'laws.FnExactMatchExpr': WHATEVER THE INPUT: true; the input reads as it did. -/
def fnExactMatchExprSpec : ChangeSpec := { name := "fnExactMatchExpr", fn := fun _ => fun
  | [d1, d2] => { results := [.lit (.bool true)], args := [d1, d2] }
  | _ => none }
def fnExactMatchExprRow : OpenClaim := { program := "ytlnfbkalpdicmaa", sum := "508cfed9d0dbb4756f4fc4cb14aac75314ea1ce830d9f9f5cbfd46a1132267ee", func := "loop.example/g00584/laws.FnExactMatchExpr", spec := "fnExactMatchExpr", unfollowed := true, recurses := true, loops := true, apart := false }
def FnExactMatchExprSaid : Prop := fnExactMatchExprRow.holds Try.pinned (OpenSpec.ofChange fnExactMatchExprSpec)

/-- ITS FALSE NEIGHBOUR: 'it returns false'. Refute it at one input. -/
def fnExactMatchExprWrong : ChangeSpec := { name := "fnExactMatchExpr", fn := fun _ => fun
  | [d1, d2] => { results := [.lit (.bool false)], args := [d1, d2] }
  | _ => none }
def FnExactMatchExprWrongFalsely : Prop := fnExactMatchExprRow.holds Try.pinned (OpenSpec.ofChange fnExactMatchExprWrong)

/-- 'laws.FnExactFormatExpr': WHATEVER THE INPUT: true; the input reads as it did. -/
def fnExactFormatExprSpec : ChangeSpec := { name := "fnExactFormatExpr", fn := fun _ => fun
  | [d] => { results := [.lit (.bool true)], args := [d] }
  | _ => none }
def fnExactFormatExprRow : OpenClaim := { program := "ytlnfbkalpdicmaa", sum := "508cfed9d0dbb4756f4fc4cb14aac75314ea1ce830d9f9f5cbfd46a1132267ee", func := "loop.example/g00584/laws.FnExactFormatExpr", spec := "fnExactFormatExpr", inPlace := ["internal/abi.NoEscape", "internal/bytealg.MakeNoZero"], recurses := true, loops := true, apart := false }
def FnExactFormatExprSaid : Prop := fnExactFormatExprRow.holds Try.pinned (OpenSpec.ofChange fnExactFormatExprSpec)

/-- ITS FALSE NEIGHBOUR: 'it returns false'. Refute it at one input. -/
def fnExactFormatExprWrong : ChangeSpec := { name := "fnExactFormatExpr", fn := fun _ => fun
  | [d] => { results := [.lit (.bool false)], args := [d] }
  | _ => none }
def FnExactFormatExprWrongFalsely : Prop := fnExactFormatExprRow.holds Try.pinned (OpenSpec.ofChange fnExactFormatExprWrong)

/-- 'laws.FnExactRenamingOf': WHATEVER THE INPUT: true; the input reads as it did. -/
def fnExactRenamingOfSpec : ChangeSpec := { name := "fnExactRenamingOf", fn := fun _ => fun
  | [d1, d2] => { results := [.lit (.bool true)], args := [d1, d2] }
  | _ => none }
def fnExactRenamingOfRow : OpenClaim := { program := "ytlnfbkalpdicmaa", sum := "508cfed9d0dbb4756f4fc4cb14aac75314ea1ce830d9f9f5cbfd46a1132267ee", func := "loop.example/g00584/laws.FnExactRenamingOf", spec := "fnExactRenamingOf", unfollowed := true, recurses := true, loops := true, apart := false }
def FnExactRenamingOfSaid : Prop := fnExactRenamingOfRow.holds Try.pinned (OpenSpec.ofChange fnExactRenamingOfSpec)

/-- ITS FALSE NEIGHBOUR: 'it returns false'. Refute it at one input. -/
def fnExactRenamingOfWrong : ChangeSpec := { name := "fnExactRenamingOf", fn := fun _ => fun
  | [d1, d2] => { results := [.lit (.bool false)], args := [d1, d2] }
  | _ => none }
def FnExactRenamingOfWrongFalsely : Prop := fnExactRenamingOfRow.holds Try.pinned (OpenSpec.ofChange fnExactRenamingOfWrong)

/-- 'laws.FnExactFormatRule': WHATEVER THE INPUT: true; the input reads as it did. -/
def fnExactFormatRuleSpec : ChangeSpec := { name := "fnExactFormatRule", fn := fun _ => fun
  | [d] => { results := [.lit (.bool true)], args := [d] }
  | _ => none }
def fnExactFormatRuleRow : OpenClaim := { program := "ytlnfbkalpdicmaa", sum := "508cfed9d0dbb4756f4fc4cb14aac75314ea1ce830d9f9f5cbfd46a1132267ee", func := "loop.example/g00584/laws.FnExactFormatRule", spec := "fnExactFormatRule", inPlace := ["internal/abi.NoEscape", "internal/bytealg.MakeNoZero"], recurses := true, loops := true, apart := false }
def FnExactFormatRuleSaid : Prop := fnExactFormatRuleRow.holds Try.pinned (OpenSpec.ofChange fnExactFormatRuleSpec)

/-- ITS FALSE NEIGHBOUR: 'it returns false'. Refute it at one input. -/
def fnExactFormatRuleWrong : ChangeSpec := { name := "fnExactFormatRule", fn := fun _ => fun
  | [d] => { results := [.lit (.bool false)], args := [d] }
  | _ => none }
def FnExactFormatRuleWrongFalsely : Prop := fnExactFormatRuleRow.holds Try.pinned (OpenSpec.ofChange fnExactFormatRuleWrong)

/-- 'laws.FnExactConArity': WHATEVER THE INPUT: true; the input reads as it did. -/
def fnExactConAritySpec : ChangeSpec := { name := "fnExactConArity", fn := fun _ => fun
  | [d1, d2] => { results := [.lit (.bool true)], args := [d1, d2] }
  | _ => none }
def fnExactConArityRow : OpenClaim := { program := "ytlnfbkalpdicmaa", sum := "508cfed9d0dbb4756f4fc4cb14aac75314ea1ce830d9f9f5cbfd46a1132267ee", func := "loop.example/g00584/laws.FnExactConArity", spec := "fnExactConArity", unfollowed := true, recurses := true, loops := true, apart := false }
def FnExactConAritySaid : Prop := fnExactConArityRow.holds Try.pinned (OpenSpec.ofChange fnExactConAritySpec)

/-- ITS FALSE NEIGHBOUR: 'it returns false'. Refute it at one input. -/
def fnExactConArityWrong : ChangeSpec := { name := "fnExactConArity", fn := fun _ => fun
  | [d1, d2] => { results := [.lit (.bool false)], args := [d1, d2] }
  | _ => none }
def FnExactConArityWrongFalsely : Prop := fnExactConArityRow.holds Try.pinned (OpenSpec.ofChange fnExactConArityWrong)

/- THE SECOND FORM. 'bulk': how many values and letters a reading holds, each counted each time it is reached (what is shared counts as often as it is met; a slice's spare places count too). A statement '..UptoSaid' is the law's where the arguments, and the package variables that the reading takes, are together of bulk at most 1048576: NARROWER than '..Said'. Prove '..Said' where nothing that the law and all that it calls make is longer than what came in: it says more and counts as full. Else prove '..UptoSaid'. A law counts once. -/
mutual
def uptoBulk {H : Type} : DataW H → Nat
  | .lit (.string bytes) => bytes.length + 1
  | .lit _ => 1
  | .nil => 1
  | .ptr d => uptoBulk d + 1
  | .slice elems spare => uptoBulkAll elems + uptoBulkAll spare + 1
  | .agg parts => uptoBulkAll parts + 1
  | .iface _ d => uptoBulk d + 1
  | .map entries => uptoBulkEntries entries + 1
  | .held _ => 1
def uptoBulkAll {H : Type} : List (DataW H) → Nat
  | [] => 0
  | d :: r => uptoBulk d + uptoBulkAll r
def uptoBulkEntries {H : Type} : List (Lit × DataW H) → Nat
  | [] => 0
  | x :: r => uptoBulkEntry x + uptoBulkEntries r
def uptoBulkEntry {H : Type} : Lit × DataW H → Nat
  | (.string bytes, d) => bytes.length + uptoBulk d + 1
  | (_, d) => uptoBulk d + 1
 end
def uptoSmall : (H : Type) → List (DataW H) → Bool := fun _ ds => decide (uptoBulkAll ds ≤ 1048576)
def OpenSpec.upto (s : _root_.Go.ChangeSpec) : _root_.Go.OpenSpec := { _root_.Go.OpenSpec.ofChange s with cond := some uptoSmall }

/-- 'laws.FnExactEqualBranches', WHERE WHAT IT READS IS OF BULK AT MOST 1048576: true; the input reads as it did. -/
def fnExactEqualBranchesUptoRow : OpenClaim := { program := "ytlnfbkalpdicmaa", sum := "508cfed9d0dbb4756f4fc4cb14aac75314ea1ce830d9f9f5cbfd46a1132267ee", func := "loop.example/g00584/laws.FnExactEqualBranches", spec := "fnExactEqualBranches", unfollowed := true, recurses := true, loops := true, apart := false, narrowed := true }
def FnExactEqualBranchesUptoSaid : Prop := fnExactEqualBranchesUptoRow.holds Try.pinned (OpenSpec.upto fnExactEqualBranchesSpec)

/-- 'laws.FnExactEqualProgram', WHERE WHAT IT READS IS OF BULK AT MOST 1048576: true; the input reads as it did. -/
def fnExactEqualProgramUptoRow : OpenClaim := { program := "ytlnfbkalpdicmaa", sum := "508cfed9d0dbb4756f4fc4cb14aac75314ea1ce830d9f9f5cbfd46a1132267ee", func := "loop.example/g00584/laws.FnExactEqualProgram", spec := "fnExactEqualProgram", unfollowed := true, recurses := true, loops := true, apart := false, narrowed := true }
def FnExactEqualProgramUptoSaid : Prop := fnExactEqualProgramUptoRow.holds Try.pinned (OpenSpec.upto fnExactEqualProgramSpec)

/-- 'laws.FnExactFunctionKind', WHERE WHAT IT READS IS OF BULK AT MOST 1048576: true; the input reads as it did. -/
def fnExactFunctionKindUptoRow : OpenClaim := { program := "ytlnfbkalpdicmaa", sum := "508cfed9d0dbb4756f4fc4cb14aac75314ea1ce830d9f9f5cbfd46a1132267ee", func := "loop.example/g00584/laws.FnExactFunctionKind", spec := "fnExactFunctionKind", unfollowed := true, recurses := true, loops := true, apart := false, narrowed := true }
def FnExactFunctionKindUptoSaid : Prop := fnExactFunctionKindUptoRow.holds Try.pinned (OpenSpec.upto fnExactFunctionKindSpec)

/-- 'laws.FnExactApplyBindings', WHERE WHAT IT READS IS OF BULK AT MOST 1048576: true; the input reads as it did. -/
def fnExactApplyBindingsUptoRow : OpenClaim := { program := "ytlnfbkalpdicmaa", sum := "508cfed9d0dbb4756f4fc4cb14aac75314ea1ce830d9f9f5cbfd46a1132267ee", func := "loop.example/g00584/laws.FnExactApplyBindings", spec := "fnExactApplyBindings", recurses := true, loops := true, apart := false, narrowed := true }
def FnExactApplyBindingsUptoSaid : Prop := fnExactApplyBindingsUptoRow.holds Try.pinned (OpenSpec.upto fnExactApplyBindingsSpec)

/-- 'laws.FnExactMatchExpr', WHERE WHAT IT READS IS OF BULK AT MOST 1048576: true; the input reads as it did. -/
def fnExactMatchExprUptoRow : OpenClaim := { program := "ytlnfbkalpdicmaa", sum := "508cfed9d0dbb4756f4fc4cb14aac75314ea1ce830d9f9f5cbfd46a1132267ee", func := "loop.example/g00584/laws.FnExactMatchExpr", spec := "fnExactMatchExpr", unfollowed := true, recurses := true, loops := true, apart := false, narrowed := true }
def FnExactMatchExprUptoSaid : Prop := fnExactMatchExprUptoRow.holds Try.pinned (OpenSpec.upto fnExactMatchExprSpec)

/-- 'laws.FnExactFormatExpr', WHERE WHAT IT READS IS OF BULK AT MOST 1048576: true; the input reads as it did. -/
def fnExactFormatExprUptoRow : OpenClaim := { program := "ytlnfbkalpdicmaa", sum := "508cfed9d0dbb4756f4fc4cb14aac75314ea1ce830d9f9f5cbfd46a1132267ee", func := "loop.example/g00584/laws.FnExactFormatExpr", spec := "fnExactFormatExpr", inPlace := ["internal/abi.NoEscape", "internal/bytealg.MakeNoZero"], recurses := true, loops := true, apart := false, narrowed := true }
def FnExactFormatExprUptoSaid : Prop := fnExactFormatExprUptoRow.holds Try.pinned (OpenSpec.upto fnExactFormatExprSpec)

/-- 'laws.FnExactRenamingOf', WHERE WHAT IT READS IS OF BULK AT MOST 1048576: true; the input reads as it did. -/
def fnExactRenamingOfUptoRow : OpenClaim := { program := "ytlnfbkalpdicmaa", sum := "508cfed9d0dbb4756f4fc4cb14aac75314ea1ce830d9f9f5cbfd46a1132267ee", func := "loop.example/g00584/laws.FnExactRenamingOf", spec := "fnExactRenamingOf", unfollowed := true, recurses := true, loops := true, apart := false, narrowed := true }
def FnExactRenamingOfUptoSaid : Prop := fnExactRenamingOfUptoRow.holds Try.pinned (OpenSpec.upto fnExactRenamingOfSpec)

/-- 'laws.FnExactFormatRule', WHERE WHAT IT READS IS OF BULK AT MOST 1048576: true; the input reads as it did. -/
def fnExactFormatRuleUptoRow : OpenClaim := { program := "ytlnfbkalpdicmaa", sum := "508cfed9d0dbb4756f4fc4cb14aac75314ea1ce830d9f9f5cbfd46a1132267ee", func := "loop.example/g00584/laws.FnExactFormatRule", spec := "fnExactFormatRule", inPlace := ["internal/abi.NoEscape", "internal/bytealg.MakeNoZero"], recurses := true, loops := true, apart := false, narrowed := true }
def FnExactFormatRuleUptoSaid : Prop := fnExactFormatRuleUptoRow.holds Try.pinned (OpenSpec.upto fnExactFormatRuleSpec)

/-- 'laws.FnExactConArity', WHERE WHAT IT READS IS OF BULK AT MOST 1048576: true; the input reads as it did. -/
def fnExactConArityUptoRow : OpenClaim := { program := "ytlnfbkalpdicmaa", sum := "508cfed9d0dbb4756f4fc4cb14aac75314ea1ce830d9f9f5cbfd46a1132267ee", func := "loop.example/g00584/laws.FnExactConArity", spec := "fnExactConArity", unfollowed := true, recurses := true, loops := true, apart := false, narrowed := true }
def FnExactConArityUptoSaid : Prop := fnExactConArityUptoRow.holds Try.pinned (OpenSpec.upto fnExactConAritySpec)

end Rows
end Go.Proofs.Ytlnfbkalpdicmaa
