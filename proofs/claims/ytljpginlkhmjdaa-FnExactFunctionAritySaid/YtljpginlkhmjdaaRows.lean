/-
  NARROWER THAN 'FOR EVERY INPUT', by the rows' own cells (each row's printed sentence says how): FnExactEqualBindings: loops · FnExactVarsOf: loops · FnExactIsInstance: loops · FnExactEqualGeneral: loops · FnExactIsGeneral: loops · FnExactFindRule: loops · FnExactFindBinding: loops · FnExactFunctionArity: loops.
  DERIVED. THE GIVEN ROWS OF THIS SEAT. 12 by the template 'for every input the law returns true; each argument reads behind the call as it read before'; 0 by the template 'total and deterministic' (their statements: YtljpginlkhmjdaaTotals.lean).
  GIVEN WITH THE SEED: the statements are not yours to turn. If you find one false, say at which input.
  Laid BY PROGRAM, IN A SANDBOX (cutbox-rows.mjs): the forced cells as the released guide's own fill.sh prints them over the translation cce561abe439b13c… (all of the seat's roots in one cut). By AI agents, Wed Nov 11 2026. No macro, syntax, notation, axiom, sorry.
-/
import Derived.Test.YtljpginlkhmjdaaChecked
import GoSem.Claim
import GoSem.ClaimJoined
import GoSem.ClaimMapViews
import Derived.JoinedTies
import Derived.KernelRfl
namespace Go.Proofs.Ytljpginlkhmjdaa
/- THE CELL 'sum', in the pinned program and in every row, IS THE sha256 OF THE DUMP (.gsa) THAT YtljpginlkhmjdaaProg.lean LOADS. Nothing in Lean hashes anything: it is a label: what it is worth is what the hold of that sum in a sandbox is worth. -/
noncomputable def Try.pinned : Pinned := { name := "ytljpginlkhmjdaa", sum := "cce561abe439b13c86fc49f25bda084a22961aacb992cbf2cf3295631c6747a2", checked := Try.checked }
namespace Rows
def none {H : Type} : Left H := { results := [], args := [] }

/-- 'laws.FnExactStatusName': WHATEVER THE INPUT: true; the input reads as it did. -/
def fnExactStatusNameSpec : ChangeSpec := { name := "fnExactStatusName", fn := fun _ => fun
  | [d] => { results := [.lit (.bool true)], args := [d] }
  | _ => none }
def fnExactStatusNameRow : OpenClaim := { program := "ytljpginlkhmjdaa", sum := "cce561abe439b13c86fc49f25bda084a22961aacb992cbf2cf3295631c6747a2", func := "loop.example/g00584/laws.FnExactStatusName", spec := "fnExactStatusName", apart := false }
def FnExactStatusNameSaid : Prop := fnExactStatusNameRow.holds Try.pinned (OpenSpec.ofChange fnExactStatusNameSpec)

/-- ITS FALSE NEIGHBOUR: 'it returns false'. Refute it at one input. -/
def fnExactStatusNameWrong : ChangeSpec := { name := "fnExactStatusName", fn := fun _ => fun
  | [d] => { results := [.lit (.bool false)], args := [d] }
  | _ => none }
def FnExactStatusNameWrongFalsely : Prop := fnExactStatusNameRow.holds Try.pinned (OpenSpec.ofChange fnExactStatusNameWrong)

/-- 'laws.FnExactIsName': WHATEVER THE INPUT: true; the input reads as it did. -/
def fnExactIsNameSpec : ChangeSpec := { name := "fnExactIsName", fn := fun _ => fun
  | [d] => { results := [.lit (.bool true)], args := [d] }
  | _ => none }
def fnExactIsNameRow : OpenClaim := { program := "ytljpginlkhmjdaa", sum := "cce561abe439b13c86fc49f25bda084a22961aacb992cbf2cf3295631c6747a2", func := "loop.example/g00584/laws.FnExactIsName", spec := "fnExactIsName", apart := false }
def FnExactIsNameSaid : Prop := fnExactIsNameRow.holds Try.pinned (OpenSpec.ofChange fnExactIsNameSpec)

/-- ITS FALSE NEIGHBOUR: 'it returns false'. Refute it at one input. -/
def fnExactIsNameWrong : ChangeSpec := { name := "fnExactIsName", fn := fun _ => fun
  | [d] => { results := [.lit (.bool false)], args := [d] }
  | _ => none }
def FnExactIsNameWrongFalsely : Prop := fnExactIsNameRow.holds Try.pinned (OpenSpec.ofChange fnExactIsNameWrong)

/-- 'laws.FnExactIsConName': WHATEVER THE INPUT: true; the input reads as it did. -/
def fnExactIsConNameSpec : ChangeSpec := { name := "fnExactIsConName", fn := fun _ => fun
  | [d] => { results := [.lit (.bool true)], args := [d] }
  | _ => none }
def fnExactIsConNameRow : OpenClaim := { program := "ytljpginlkhmjdaa", sum := "cce561abe439b13c86fc49f25bda084a22961aacb992cbf2cf3295631c6747a2", func := "loop.example/g00584/laws.FnExactIsConName", spec := "fnExactIsConName", apart := false }
def FnExactIsConNameSaid : Prop := fnExactIsConNameRow.holds Try.pinned (OpenSpec.ofChange fnExactIsConNameSpec)

/-- ITS FALSE NEIGHBOUR: 'it returns false'. Refute it at one input. -/
def fnExactIsConNameWrong : ChangeSpec := { name := "fnExactIsConName", fn := fun _ => fun
  | [d] => { results := [.lit (.bool false)], args := [d] }
  | _ => none }
def FnExactIsConNameWrongFalsely : Prop := fnExactIsConNameRow.holds Try.pinned (OpenSpec.ofChange fnExactIsConNameWrong)

/-- 'laws.FnExactJoin': WHATEVER THE INPUT: true; the input reads as it did. -/
def fnExactJoinSpec : ChangeSpec := { name := "fnExactJoin", fn := fun _ => fun
  | [d1, d2] => { results := [.lit (.bool true)], args := [d1, d2] }
  | _ => none }
def fnExactJoinRow : OpenClaim := { program := "ytljpginlkhmjdaa", sum := "cce561abe439b13c86fc49f25bda084a22961aacb992cbf2cf3295631c6747a2", func := "loop.example/g00584/laws.FnExactJoin", spec := "fnExactJoin", inPlace := ["internal/abi.NoEscape", "internal/bytealg.MakeNoZero"], apart := false }
def FnExactJoinSaid : Prop := fnExactJoinRow.holds Try.pinned (OpenSpec.ofChange fnExactJoinSpec)

/-- ITS FALSE NEIGHBOUR: 'it returns false'. Refute it at one input. -/
def fnExactJoinWrong : ChangeSpec := { name := "fnExactJoin", fn := fun _ => fun
  | [d1, d2] => { results := [.lit (.bool false)], args := [d1, d2] }
  | _ => none }
def FnExactJoinWrongFalsely : Prop := fnExactJoinRow.holds Try.pinned (OpenSpec.ofChange fnExactJoinWrong)

/-- 'laws.FnExactEqualBindings': WHATEVER THE INPUT: true; the input reads as it did. -/
def fnExactEqualBindingsSpec : ChangeSpec := { name := "fnExactEqualBindings", fn := fun _ => fun
  | [d1, d2] => { results := [.lit (.bool true)], args := [d1, d2] }
  | _ => none }
def fnExactEqualBindingsRow : OpenClaim := { program := "ytljpginlkhmjdaa", sum := "cce561abe439b13c86fc49f25bda084a22961aacb992cbf2cf3295631c6747a2", func := "loop.example/g00584/laws.FnExactEqualBindings", spec := "fnExactEqualBindings", unfollowed := true, recurses := true, loops := true, apart := false }
def FnExactEqualBindingsSaid : Prop := fnExactEqualBindingsRow.holds Try.pinned (OpenSpec.ofChange fnExactEqualBindingsSpec)

/-- ITS FALSE NEIGHBOUR: 'it returns false'. Refute it at one input. -/
def fnExactEqualBindingsWrong : ChangeSpec := { name := "fnExactEqualBindings", fn := fun _ => fun
  | [d1, d2] => { results := [.lit (.bool false)], args := [d1, d2] }
  | _ => none }
def FnExactEqualBindingsWrongFalsely : Prop := fnExactEqualBindingsRow.holds Try.pinned (OpenSpec.ofChange fnExactEqualBindingsWrong)

/-- 'laws.FnExactVarsOf': WHATEVER THE INPUT: true; the input reads as it did. -/
def fnExactVarsOfSpec : ChangeSpec := { name := "fnExactVarsOf", fn := fun _ => fun
  | [d] => { results := [.lit (.bool true)], args := [d] }
  | _ => none }
def fnExactVarsOfRow : OpenClaim := { program := "ytljpginlkhmjdaa", sum := "cce561abe439b13c86fc49f25bda084a22961aacb992cbf2cf3295631c6747a2", func := "loop.example/g00584/laws.FnExactVarsOf", spec := "fnExactVarsOf", unfollowed := true, recurses := true, loops := true, apart := false }
def FnExactVarsOfSaid : Prop := fnExactVarsOfRow.holds Try.pinned (OpenSpec.ofChange fnExactVarsOfSpec)

/-- ITS FALSE NEIGHBOUR: 'it returns false'. Refute it at one input. -/
def fnExactVarsOfWrong : ChangeSpec := { name := "fnExactVarsOf", fn := fun _ => fun
  | [d] => { results := [.lit (.bool false)], args := [d] }
  | _ => none }
def FnExactVarsOfWrongFalsely : Prop := fnExactVarsOfRow.holds Try.pinned (OpenSpec.ofChange fnExactVarsOfWrong)

/-- 'laws.FnExactIsInstance': WHATEVER THE INPUT: true; the input reads as it did. -/
def fnExactIsInstanceSpec : ChangeSpec := { name := "fnExactIsInstance", fn := fun _ => fun
  | [d1, d2] => { results := [.lit (.bool true)], args := [d1, d2] }
  | _ => none }
def fnExactIsInstanceRow : OpenClaim := { program := "ytljpginlkhmjdaa", sum := "cce561abe439b13c86fc49f25bda084a22961aacb992cbf2cf3295631c6747a2", func := "loop.example/g00584/laws.FnExactIsInstance", spec := "fnExactIsInstance", unfollowed := true, recurses := true, loops := true, apart := false }
def FnExactIsInstanceSaid : Prop := fnExactIsInstanceRow.holds Try.pinned (OpenSpec.ofChange fnExactIsInstanceSpec)

/-- ITS FALSE NEIGHBOUR: 'it returns false'. Refute it at one input. -/
def fnExactIsInstanceWrong : ChangeSpec := { name := "fnExactIsInstance", fn := fun _ => fun
  | [d1, d2] => { results := [.lit (.bool false)], args := [d1, d2] }
  | _ => none }
def FnExactIsInstanceWrongFalsely : Prop := fnExactIsInstanceRow.holds Try.pinned (OpenSpec.ofChange fnExactIsInstanceWrong)

/-- 'laws.FnExactEqualGeneral': WHATEVER THE INPUT: true; the input reads as it did. -/
def fnExactEqualGeneralSpec : ChangeSpec := { name := "fnExactEqualGeneral", fn := fun _ => fun
  | [d1, d2] => { results := [.lit (.bool true)], args := [d1, d2] }
  | _ => none }
def fnExactEqualGeneralRow : OpenClaim := { program := "ytljpginlkhmjdaa", sum := "cce561abe439b13c86fc49f25bda084a22961aacb992cbf2cf3295631c6747a2", func := "loop.example/g00584/laws.FnExactEqualGeneral", spec := "fnExactEqualGeneral", unfollowed := true, recurses := true, loops := true, apart := false }
def FnExactEqualGeneralSaid : Prop := fnExactEqualGeneralRow.holds Try.pinned (OpenSpec.ofChange fnExactEqualGeneralSpec)

/-- ITS FALSE NEIGHBOUR: 'it returns false'. Refute it at one input. -/
def fnExactEqualGeneralWrong : ChangeSpec := { name := "fnExactEqualGeneral", fn := fun _ => fun
  | [d1, d2] => { results := [.lit (.bool false)], args := [d1, d2] }
  | _ => none }
def FnExactEqualGeneralWrongFalsely : Prop := fnExactEqualGeneralRow.holds Try.pinned (OpenSpec.ofChange fnExactEqualGeneralWrong)

/-- 'laws.FnExactIsGeneral': WHATEVER THE INPUT: true; the input reads as it did. -/
def fnExactIsGeneralSpec : ChangeSpec := { name := "fnExactIsGeneral", fn := fun _ => fun
  | [d1, d2] => { results := [.lit (.bool true)], args := [d1, d2] }
  | _ => none }
def fnExactIsGeneralRow : OpenClaim := { program := "ytljpginlkhmjdaa", sum := "cce561abe439b13c86fc49f25bda084a22961aacb992cbf2cf3295631c6747a2", func := "loop.example/g00584/laws.FnExactIsGeneral", spec := "fnExactIsGeneral", unfollowed := true, recurses := true, loops := true, apart := false }
def FnExactIsGeneralSaid : Prop := fnExactIsGeneralRow.holds Try.pinned (OpenSpec.ofChange fnExactIsGeneralSpec)

/-- ITS FALSE NEIGHBOUR: 'it returns false'. Refute it at one input. -/
def fnExactIsGeneralWrong : ChangeSpec := { name := "fnExactIsGeneral", fn := fun _ => fun
  | [d1, d2] => { results := [.lit (.bool false)], args := [d1, d2] }
  | _ => none }
def FnExactIsGeneralWrongFalsely : Prop := fnExactIsGeneralRow.holds Try.pinned (OpenSpec.ofChange fnExactIsGeneralWrong)

/-- 'laws.FnExactFindRule': WHATEVER THE INPUT: true; the input reads as it did. -/
def fnExactFindRuleSpec : ChangeSpec := { name := "fnExactFindRule", fn := fun _ => fun
  | [d1, d2, d3] => { results := [.lit (.bool true)], args := [d1, d2, d3] }
  | _ => none }
def fnExactFindRuleRow : OpenClaim := { program := "ytljpginlkhmjdaa", sum := "cce561abe439b13c86fc49f25bda084a22961aacb992cbf2cf3295631c6747a2", func := "loop.example/g00584/laws.FnExactFindRule", spec := "fnExactFindRule", unfollowed := true, recurses := true, loops := true, apart := false }
def FnExactFindRuleSaid : Prop := fnExactFindRuleRow.holds Try.pinned (OpenSpec.ofChange fnExactFindRuleSpec)

/-- ITS FALSE NEIGHBOUR: 'it returns false'. Refute it at one input. -/
def fnExactFindRuleWrong : ChangeSpec := { name := "fnExactFindRule", fn := fun _ => fun
  | [d1, d2, d3] => { results := [.lit (.bool false)], args := [d1, d2, d3] }
  | _ => none }
def FnExactFindRuleWrongFalsely : Prop := fnExactFindRuleRow.holds Try.pinned (OpenSpec.ofChange fnExactFindRuleWrong)

/-- 'laws.FnExactFindBinding': WHATEVER THE INPUT: true; the input reads as it did. -/
def fnExactFindBindingSpec : ChangeSpec := { name := "fnExactFindBinding", fn := fun _ => fun
  | [d1, d2] => { results := [.lit (.bool true)], args := [d1, d2] }
  | _ => none }
def fnExactFindBindingRow : OpenClaim := { program := "ytljpginlkhmjdaa", sum := "cce561abe439b13c86fc49f25bda084a22961aacb992cbf2cf3295631c6747a2", func := "loop.example/g00584/laws.FnExactFindBinding", spec := "fnExactFindBinding", recurses := true, loops := true, apart := false }
def FnExactFindBindingSaid : Prop := fnExactFindBindingRow.holds Try.pinned (OpenSpec.ofChange fnExactFindBindingSpec)

/-- ITS FALSE NEIGHBOUR: 'it returns false'. Refute it at one input. -/
def fnExactFindBindingWrong : ChangeSpec := { name := "fnExactFindBinding", fn := fun _ => fun
  | [d1, d2] => { results := [.lit (.bool false)], args := [d1, d2] }
  | _ => none }
def FnExactFindBindingWrongFalsely : Prop := fnExactFindBindingRow.holds Try.pinned (OpenSpec.ofChange fnExactFindBindingWrong)

/-- 'laws.FnExactFunctionArity': WHATEVER THE INPUT: true; the input reads as it did. -/
def fnExactFunctionAritySpec : ChangeSpec := { name := "fnExactFunctionArity", fn := fun _ => fun
  | [d1, d2] => { results := [.lit (.bool true)], args := [d1, d2] }
  | _ => none }
def fnExactFunctionArityRow : OpenClaim := { program := "ytljpginlkhmjdaa", sum := "cce561abe439b13c86fc49f25bda084a22961aacb992cbf2cf3295631c6747a2", func := "loop.example/g00584/laws.FnExactFunctionArity", spec := "fnExactFunctionArity", unfollowed := true, recurses := true, loops := true, apart := false }
def FnExactFunctionAritySaid : Prop := fnExactFunctionArityRow.holds Try.pinned (OpenSpec.ofChange fnExactFunctionAritySpec)

/-- ITS FALSE NEIGHBOUR: 'it returns false'. Refute it at one input. -/
def fnExactFunctionArityWrong : ChangeSpec := { name := "fnExactFunctionArity", fn := fun _ => fun
  | [d1, d2] => { results := [.lit (.bool false)], args := [d1, d2] }
  | _ => none }
def FnExactFunctionArityWrongFalsely : Prop := fnExactFunctionArityRow.holds Try.pinned (OpenSpec.ofChange fnExactFunctionArityWrong)

/- THE SECOND FORM. 'bulk': how many values and letters a reading holds, each counted each time it is reached (what is shared counts as often as it is met; a slice's spare places count too). A statement '..UptoSaid' is the law's where the arguments, and the package variables that the reading takes, are together of bulk at most 1048576: NARROWER than '..Said'. Prove '..Said' where nothing that the law and all that it calls make is longer than what came in: it says more and counts as full. Else prove '..UptoSaid'. A law counts once. -/
mutual
def uptoBulk {H : Type} : DataW H → Nat
  | .lit (.string bytes) => bytes.length + 1
  | .lit _ => 1
  | .nil => 1
  | .ptr d => uptoBulk d + 1
  | .slice elems spare => uptoBulkAll elems + uptoBulkAll spare + 1
  | .agg parts => uptoBulkAll parts + 1
  | .iface _ d => uptoBulk d + 1
  | .map entries => uptoBulkEntries entries + 1
  | .held _ => 1
def uptoBulkAll {H : Type} : List (DataW H) → Nat
  | [] => 0
  | d :: r => uptoBulk d + uptoBulkAll r
def uptoBulkEntries {H : Type} : List (Lit × DataW H) → Nat
  | [] => 0
  | x :: r => uptoBulkEntry x + uptoBulkEntries r
def uptoBulkEntry {H : Type} : Lit × DataW H → Nat
  | (.string bytes, d) => bytes.length + uptoBulk d + 1
  | (_, d) => uptoBulk d + 1
 end
def uptoSmall : (H : Type) → List (DataW H) → Bool := fun _ ds => decide (uptoBulkAll ds ≤ 1048576)
def OpenSpec.upto (s : _root_.Go.ChangeSpec) : _root_.Go.OpenSpec := { _root_.Go.OpenSpec.ofChange s with cond := some uptoSmall }

/-- 'laws.FnExactStatusName', WHERE WHAT IT READS IS OF BULK AT MOST 1048576: true; the input reads as it did. -/
def fnExactStatusNameUptoRow : OpenClaim := { program := "ytljpginlkhmjdaa", sum := "cce561abe439b13c86fc49f25bda084a22961aacb992cbf2cf3295631c6747a2", func := "loop.example/g00584/laws.FnExactStatusName", spec := "fnExactStatusName", apart := false, narrowed := true }
def FnExactStatusNameUptoSaid : Prop := fnExactStatusNameUptoRow.holds Try.pinned (OpenSpec.upto fnExactStatusNameSpec)

/-- 'laws.FnExactIsName', WHERE WHAT IT READS IS OF BULK AT MOST 1048576: true; the input reads as it did. -/
def fnExactIsNameUptoRow : OpenClaim := { program := "ytljpginlkhmjdaa", sum := "cce561abe439b13c86fc49f25bda084a22961aacb992cbf2cf3295631c6747a2", func := "loop.example/g00584/laws.FnExactIsName", spec := "fnExactIsName", apart := false, narrowed := true }
def FnExactIsNameUptoSaid : Prop := fnExactIsNameUptoRow.holds Try.pinned (OpenSpec.upto fnExactIsNameSpec)

/-- 'laws.FnExactIsConName', WHERE WHAT IT READS IS OF BULK AT MOST 1048576: true; the input reads as it did. -/
def fnExactIsConNameUptoRow : OpenClaim := { program := "ytljpginlkhmjdaa", sum := "cce561abe439b13c86fc49f25bda084a22961aacb992cbf2cf3295631c6747a2", func := "loop.example/g00584/laws.FnExactIsConName", spec := "fnExactIsConName", apart := false, narrowed := true }
def FnExactIsConNameUptoSaid : Prop := fnExactIsConNameUptoRow.holds Try.pinned (OpenSpec.upto fnExactIsConNameSpec)

/-- 'laws.FnExactJoin', WHERE WHAT IT READS IS OF BULK AT MOST 1048576: true; the input reads as it did. -/
def fnExactJoinUptoRow : OpenClaim := { program := "ytljpginlkhmjdaa", sum := "cce561abe439b13c86fc49f25bda084a22961aacb992cbf2cf3295631c6747a2", func := "loop.example/g00584/laws.FnExactJoin", spec := "fnExactJoin", inPlace := ["internal/abi.NoEscape", "internal/bytealg.MakeNoZero"], apart := false, narrowed := true }
def FnExactJoinUptoSaid : Prop := fnExactJoinUptoRow.holds Try.pinned (OpenSpec.upto fnExactJoinSpec)

/-- 'laws.FnExactEqualBindings', WHERE WHAT IT READS IS OF BULK AT MOST 1048576: true; the input reads as it did. -/
def fnExactEqualBindingsUptoRow : OpenClaim := { program := "ytljpginlkhmjdaa", sum := "cce561abe439b13c86fc49f25bda084a22961aacb992cbf2cf3295631c6747a2", func := "loop.example/g00584/laws.FnExactEqualBindings", spec := "fnExactEqualBindings", unfollowed := true, recurses := true, loops := true, apart := false, narrowed := true }
def FnExactEqualBindingsUptoSaid : Prop := fnExactEqualBindingsUptoRow.holds Try.pinned (OpenSpec.upto fnExactEqualBindingsSpec)

/-- 'laws.FnExactVarsOf', WHERE WHAT IT READS IS OF BULK AT MOST 1048576: true; the input reads as it did. -/
def fnExactVarsOfUptoRow : OpenClaim := { program := "ytljpginlkhmjdaa", sum := "cce561abe439b13c86fc49f25bda084a22961aacb992cbf2cf3295631c6747a2", func := "loop.example/g00584/laws.FnExactVarsOf", spec := "fnExactVarsOf", unfollowed := true, recurses := true, loops := true, apart := false, narrowed := true }
def FnExactVarsOfUptoSaid : Prop := fnExactVarsOfUptoRow.holds Try.pinned (OpenSpec.upto fnExactVarsOfSpec)

/-- 'laws.FnExactIsInstance', WHERE WHAT IT READS IS OF BULK AT MOST 1048576: true; the input reads as it did. -/
def fnExactIsInstanceUptoRow : OpenClaim := { program := "ytljpginlkhmjdaa", sum := "cce561abe439b13c86fc49f25bda084a22961aacb992cbf2cf3295631c6747a2", func := "loop.example/g00584/laws.FnExactIsInstance", spec := "fnExactIsInstance", unfollowed := true, recurses := true, loops := true, apart := false, narrowed := true }
def FnExactIsInstanceUptoSaid : Prop := fnExactIsInstanceUptoRow.holds Try.pinned (OpenSpec.upto fnExactIsInstanceSpec)

/-- 'laws.FnExactEqualGeneral', WHERE WHAT IT READS IS OF BULK AT MOST 1048576: true; the input reads as it did. -/
def fnExactEqualGeneralUptoRow : OpenClaim := { program := "ytljpginlkhmjdaa", sum := "cce561abe439b13c86fc49f25bda084a22961aacb992cbf2cf3295631c6747a2", func := "loop.example/g00584/laws.FnExactEqualGeneral", spec := "fnExactEqualGeneral", unfollowed := true, recurses := true, loops := true, apart := false, narrowed := true }
def FnExactEqualGeneralUptoSaid : Prop := fnExactEqualGeneralUptoRow.holds Try.pinned (OpenSpec.upto fnExactEqualGeneralSpec)

/-- 'laws.FnExactIsGeneral', WHERE WHAT IT READS IS OF BULK AT MOST 1048576: true; the input reads as it did. -/
def fnExactIsGeneralUptoRow : OpenClaim := { program := "ytljpginlkhmjdaa", sum := "cce561abe439b13c86fc49f25bda084a22961aacb992cbf2cf3295631c6747a2", func := "loop.example/g00584/laws.FnExactIsGeneral", spec := "fnExactIsGeneral", unfollowed := true, recurses := true, loops := true, apart := false, narrowed := true }
def FnExactIsGeneralUptoSaid : Prop := fnExactIsGeneralUptoRow.holds Try.pinned (OpenSpec.upto fnExactIsGeneralSpec)

/-- 'laws.FnExactFindRule', WHERE WHAT IT READS IS OF BULK AT MOST 1048576: true; the input reads as it did. -/
def fnExactFindRuleUptoRow : OpenClaim := { program := "ytljpginlkhmjdaa", sum := "cce561abe439b13c86fc49f25bda084a22961aacb992cbf2cf3295631c6747a2", func := "loop.example/g00584/laws.FnExactFindRule", spec := "fnExactFindRule", unfollowed := true, recurses := true, loops := true, apart := false, narrowed := true }
def FnExactFindRuleUptoSaid : Prop := fnExactFindRuleUptoRow.holds Try.pinned (OpenSpec.upto fnExactFindRuleSpec)

/-- 'laws.FnExactFindBinding', WHERE WHAT IT READS IS OF BULK AT MOST 1048576: true; the input reads as it did. -/
def fnExactFindBindingUptoRow : OpenClaim := { program := "ytljpginlkhmjdaa", sum := "cce561abe439b13c86fc49f25bda084a22961aacb992cbf2cf3295631c6747a2", func := "loop.example/g00584/laws.FnExactFindBinding", spec := "fnExactFindBinding", recurses := true, loops := true, apart := false, narrowed := true }
def FnExactFindBindingUptoSaid : Prop := fnExactFindBindingUptoRow.holds Try.pinned (OpenSpec.upto fnExactFindBindingSpec)

/-- 'laws.FnExactFunctionArity', WHERE WHAT IT READS IS OF BULK AT MOST 1048576: true; the input reads as it did. -/
def fnExactFunctionArityUptoRow : OpenClaim := { program := "ytljpginlkhmjdaa", sum := "cce561abe439b13c86fc49f25bda084a22961aacb992cbf2cf3295631c6747a2", func := "loop.example/g00584/laws.FnExactFunctionArity", spec := "fnExactFunctionArity", unfollowed := true, recurses := true, loops := true, apart := false, narrowed := true }
def FnExactFunctionArityUptoSaid : Prop := fnExactFunctionArityUptoRow.holds Try.pinned (OpenSpec.upto fnExactFunctionAritySpec)

end Rows
end Go.Proofs.Ytljpginlkhmjdaa
