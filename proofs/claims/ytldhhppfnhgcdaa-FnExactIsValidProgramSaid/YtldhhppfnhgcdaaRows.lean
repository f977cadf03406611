/-
  NARROWER THAN 'FOR EVERY INPUT', by the rows' own cells (each row's printed sentence says how): FnExactConArity: loops · FnExactIsExprFor: loops · FnExactIsValidProgram: loops.
  DERIVED. THE GIVEN ROWS OF THIS SEAT. 5 by the template 'for every input the law returns true; each argument reads behind the call as it read before'; 0 by the template 'total and deterministic' (their statements: YtldhhppfnhgcdaaTotals.lean).
  GIVEN WITH THE SEED: the statements are not yours to turn. If you find one false, say at which input.
  Laid BY PROGRAM, IN A SANDBOX (cutbox-rows.mjs): the forced cells as the released guide's own fill.sh prints them over the translation baa09f5e009e7af9… (all of the seat's roots in one cut). By AI agents, Wed Nov 11 2026. No macro, syntax, notation, axiom, sorry.
-/
import Derived.Test.YtldhhppfnhgcdaaChecked
import GoSem.Claim
import GoSem.ClaimJoined
import GoSem.ClaimMapViews
import Derived.JoinedTies
import Derived.KernelRfl
namespace Go.Proofs.Ytldhhppfnhgcdaa
/- THE CELL 'sum', in the pinned program and in every row, IS THE sha256 OF THE DUMP (.gsa) THAT YtldhhppfnhgcdaaProg.lean LOADS. Nothing in Lean hashes anything: it is a label: what it is worth is what the hold of that sum in a sandbox is worth. -/
noncomputable def Try.pinned : Pinned := { name := "ytldhhppfnhgcdaa", sum := "baa09f5e009e7af96bc9457d4545c71ab7a81c3b7eefc17a322e46352dcd8458", checked := Try.checked }
namespace Rows
def none {H : Type} : Left H := { results := [], args := [] }

/-- 'laws.FnExactConArity': WHATEVER THE INPUT: true; the input reads as it did. -/
def fnExactConAritySpec : ChangeSpec := { name := "fnExactConArity", fn := fun _ => fun
  | [d1, d2] => { results := [.lit (.bool true)], args := [d1, d2] }
  | _ => none }
def fnExactConArityRow : OpenClaim := { program := "ytldhhppfnhgcdaa", sum := "baa09f5e009e7af96bc9457d4545c71ab7a81c3b7eefc17a322e46352dcd8458", func := "loop.example/g00584/laws.FnExactConArity", spec := "fnExactConArity", unfollowed := true, recurses := true, loops := true, apart := false }
def FnExactConAritySaid : Prop := fnExactConArityRow.holds Try.pinned (OpenSpec.ofChange fnExactConAritySpec)

/-- ITS FALSE NEIGHBOUR: 'it returns false'. Refute it at one input. -/
def fnExactConArityWrong : ChangeSpec := { name := "fnExactConArity", fn := fun _ => fun
  | [d1, d2] => { results := [.lit (.bool false)], args := [d1, d2] }
  | _ => none }
def FnExactConArityWrongFalsely : Prop := fnExactConArityRow.holds Try.pinned (OpenSpec.ofChange fnExactConArityWrong)

/-- 'laws.FnExactIsExprFor': WHATEVER THE INPUT: true; the input reads as it did. -/
def fnExactIsExprForSpec : ChangeSpec := { name := "fnExactIsExprFor", fn := fun _ => fun
  | [d1, d2] => { results := [.lit (.bool true)], args := [d1, d2] }
  | _ => none }
def fnExactIsExprForRow : OpenClaim := { program := "ytldhhppfnhgcdaa", sum := "baa09f5e009e7af96bc9457d4545c71ab7a81c3b7eefc17a322e46352dcd8458", func := "loop.example/g00584/laws.FnExactIsExprFor", spec := "fnExactIsExprFor", unfollowed := true, recurses := true, loops := true, apart := false }
def FnExactIsExprForSaid : Prop := fnExactIsExprForRow.holds Try.pinned (OpenSpec.ofChange fnExactIsExprForSpec)

/-- ITS FALSE NEIGHBOUR: 'it returns false'. Refute it at one input. -/
def fnExactIsExprForWrong : ChangeSpec := { name := "fnExactIsExprFor", fn := fun _ => fun
  | [d1, d2] => { results := [.lit (.bool false)], args := [d1, d2] }
  | _ => none }
def FnExactIsExprForWrongFalsely : Prop := fnExactIsExprForRow.holds Try.pinned (OpenSpec.ofChange fnExactIsExprForWrong)

/-- 'laws.FnExactIsValidProgram': WHATEVER THE INPUT: true; the input reads as it did. -/
def fnExactIsValidProgramSpec : ChangeSpec := { name := "fnExactIsValidProgram", fn := fun _ => fun
  | [d] => { results := [.lit (.bool true)], args := [d] }
  | _ => none }
def fnExactIsValidProgramRow : OpenClaim := { program := "ytldhhppfnhgcdaa", sum := "baa09f5e009e7af96bc9457d4545c71ab7a81c3b7eefc17a322e46352dcd8458", func := "loop.example/g00584/laws.FnExactIsValidProgram", spec := "fnExactIsValidProgram", unfollowed := true, recurses := true, loops := true, apart := false }
def FnExactIsValidProgramSaid : Prop := fnExactIsValidProgramRow.holds Try.pinned (OpenSpec.ofChange fnExactIsValidProgramSpec)

/-- ITS FALSE NEIGHBOUR: 'it returns false'. Refute it at one input. -/
def fnExactIsValidProgramWrong : ChangeSpec := { name := "fnExactIsValidProgram", fn := fun _ => fun
  | [d] => { results := [.lit (.bool false)], args := [d] }
  | _ => none }
def FnExactIsValidProgramWrongFalsely : Prop := fnExactIsValidProgramRow.holds Try.pinned (OpenSpec.ofChange fnExactIsValidProgramWrong)

/-- 'laws.FnExactParseExpr': WHATEVER THE INPUT: true; the input reads as it did. -/
def fnExactParseExprSpec : ChangeSpec := { name := "fnExactParseExpr", fn := fun _ => fun
  | [d] => { results := [.lit (.bool true)], args := [d] }
  | _ => none }
def fnExactParseExprRow : OpenClaim := { program := "ytldhhppfnhgcdaa", sum := "baa09f5e009e7af96bc9457d4545c71ab7a81c3b7eefc17a322e46352dcd8458", func := "loop.example/g00584/laws.FnExactParseExpr", spec := "fnExactParseExpr", inPlace := ["internal/abi.NoEscape", "internal/bytealg.MakeNoZero"], recurses := true, apart := false }
def FnExactParseExprSaid : Prop := fnExactParseExprRow.holds Try.pinned (OpenSpec.ofChange fnExactParseExprSpec)

/-- ITS FALSE NEIGHBOUR: 'it returns false'. Refute it at one input. -/
def fnExactParseExprWrong : ChangeSpec := { name := "fnExactParseExpr", fn := fun _ => fun
  | [d] => { results := [.lit (.bool false)], args := [d] }
  | _ => none }
def FnExactParseExprWrongFalsely : Prop := fnExactParseExprRow.holds Try.pinned (OpenSpec.ofChange fnExactParseExprWrong)

/-- 'laws.FnExprText': WHATEVER THE INPUT: true; the input reads as it did. -/
def fnExprTextSpec : ChangeSpec := { name := "fnExprText", fn := fun _ => fun
  | [d] => { results := [.lit (.bool true)], args := [d] }
  | _ => none }
def fnExprTextRow : OpenClaim := { program := "ytldhhppfnhgcdaa", sum := "baa09f5e009e7af96bc9457d4545c71ab7a81c3b7eefc17a322e46352dcd8458", func := "loop.example/g00584/laws.FnExprText", spec := "fnExprText", inPlace := ["internal/abi.NoEscape", "internal/bytealg.MakeNoZero"], unfollowed := true, recurses := true, apart := false }
def FnExprTextSaid : Prop := fnExprTextRow.holds Try.pinned (OpenSpec.ofChange fnExprTextSpec)

/-- ITS FALSE NEIGHBOUR: 'it returns false'. Refute it at one input. -/
def fnExprTextWrong : ChangeSpec := { name := "fnExprText", fn := fun _ => fun
  | [d] => { results := [.lit (.bool false)], args := [d] }
  | _ => none }
def FnExprTextWrongFalsely : Prop := fnExprTextRow.holds Try.pinned (OpenSpec.ofChange fnExprTextWrong)

/- THE SECOND FORM. 'bulk': how many values and letters a reading holds, each counted each time it is reached (what is shared counts as often as it is met; a slice's spare places count too). A statement '..UptoSaid' is the law's where the arguments, and the package variables that the reading takes, are together of bulk at most 1048576: NARROWER than '..Said'. Prove '..Said' where nothing that the law and all that it calls make is longer than what came in: it says more and counts as full. Else prove '..UptoSaid'. A law counts once. -/
mutual
def uptoBulk {H : Type} : DataW H → Nat
  | .lit (.string bytes) => bytes.length + 1
  | .lit _ => 1
  | .nil => 1
  | .ptr d => uptoBulk d + 1
  | .slice elems spare => uptoBulkAll elems + uptoBulkAll spare + 1
  | .agg parts => uptoBulkAll parts + 1
  | .iface _ d => uptoBulk d + 1
  | .map entries => uptoBulkEntries entries + 1
  | .held _ => 1
def uptoBulkAll {H : Type} : List (DataW H) → Nat
  | [] => 0
  | d :: r => uptoBulk d + uptoBulkAll r
def uptoBulkEntries {H : Type} : List (Lit × DataW H) → Nat
  | [] => 0
  | x :: r => uptoBulkEntry x + uptoBulkEntries r
def uptoBulkEntry {H : Type} : Lit × DataW H → Nat
  | (.string bytes, d) => bytes.length + uptoBulk d + 1
  | (_, d) => uptoBulk d + 1
 end
def uptoSmall : (H : Type) → List (DataW H) → Bool := fun _ ds => decide (uptoBulkAll ds ≤ 1048576)
def OpenSpec.upto (s : _root_.Go.ChangeSpec) : _root_.Go.OpenSpec := { _root_.Go.OpenSpec.ofChange s with cond := some uptoSmall }

/-- 'laws.FnExactConArity', WHERE WHAT IT READS IS OF BULK AT MOST 1048576: true; the input reads as it did. -/
def fnExactConArityUptoRow : OpenClaim := { program := "ytldhhppfnhgcdaa", sum := "baa09f5e009e7af96bc9457d4545c71ab7a81c3b7eefc17a322e46352dcd8458", func := "loop.example/g00584/laws.FnExactConArity", spec := "fnExactConArity", unfollowed := true, recurses := true, loops := true, apart := false, narrowed := true }
def FnExactConArityUptoSaid : Prop := fnExactConArityUptoRow.holds Try.pinned (OpenSpec.upto fnExactConAritySpec)

/-- 'laws.FnExactIsExprFor', WHERE WHAT IT READS IS OF BULK AT MOST 1048576: true; the input reads as it did. -/
def fnExactIsExprForUptoRow : OpenClaim := { program := "ytldhhppfnhgcdaa", sum := "baa09f5e009e7af96bc9457d4545c71ab7a81c3b7eefc17a322e46352dcd8458", func := "loop.example/g00584/laws.FnExactIsExprFor", spec := "fnExactIsExprFor", unfollowed := true, recurses := true, loops := true, apart := false, narrowed := true }
def FnExactIsExprForUptoSaid : Prop := fnExactIsExprForUptoRow.holds Try.pinned (OpenSpec.upto fnExactIsExprForSpec)

/-- 'laws.FnExactIsValidProgram', WHERE WHAT IT READS IS OF BULK AT MOST 1048576: true; the input reads as it did. -/
def fnExactIsValidProgramUptoRow : OpenClaim := { program := "ytldhhppfnhgcdaa", sum := "baa09f5e009e7af96bc9457d4545c71ab7a81c3b7eefc17a322e46352dcd8458", func := "loop.example/g00584/laws.FnExactIsValidProgram", spec := "fnExactIsValidProgram", unfollowed := true, recurses := true, loops := true, apart := false, narrowed := true }
def FnExactIsValidProgramUptoSaid : Prop := fnExactIsValidProgramUptoRow.holds Try.pinned (OpenSpec.upto fnExactIsValidProgramSpec)

/-- 'laws.FnExactParseExpr', WHERE WHAT IT READS IS OF BULK AT MOST 1048576: true; the input reads as it did. -/
def fnExactParseExprUptoRow : OpenClaim := { program := "ytldhhppfnhgcdaa", sum := "baa09f5e009e7af96bc9457d4545c71ab7a81c3b7eefc17a322e46352dcd8458", func := "loop.example/g00584/laws.FnExactParseExpr", spec := "fnExactParseExpr", inPlace := ["internal/abi.NoEscape", "internal/bytealg.MakeNoZero"], recurses := true, apart := false, narrowed := true }
def FnExactParseExprUptoSaid : Prop := fnExactParseExprUptoRow.holds Try.pinned (OpenSpec.upto fnExactParseExprSpec)

/-- 'laws.FnExprText', WHERE WHAT IT READS IS OF BULK AT MOST 1048576: true; the input reads as it did. -/
def fnExprTextUptoRow : OpenClaim := { program := "ytldhhppfnhgcdaa", sum := "baa09f5e009e7af96bc9457d4545c71ab7a81c3b7eefc17a322e46352dcd8458", func := "loop.example/g00584/laws.FnExprText", spec := "fnExprText", inPlace := ["internal/abi.NoEscape", "internal/bytealg.MakeNoZero"], unfollowed := true, recurses := true, apart := false, narrowed := true }
def FnExprTextUptoSaid : Prop := fnExprTextUptoRow.holds Try.pinned (OpenSpec.upto fnExprTextSpec)

end Rows
end Go.Proofs.Ytldhhppfnhgcdaa
