/-
  NARROWER THAN 'FOR EVERY INPUT', by the rows' own cells (each row's printed sentence says how): FnExactSizeOf: loops · FnExactDepthOf: loops · FnExactEqualExpr: loops · FnExactCallsOf: loops · FnExactCouples: loops · FnExactEmbeds: loops · FnExactFirstEmbedded: loops · FnExactIsValidExpr: loops · FnExactIsData: loops.
  DERIVED. THE GIVEN ROWS OF THIS SEAT. 12 by the template 'for every input the law returns true; each argument reads behind the call as it read before'; 0 by the template 'total and deterministic' (their statements: YtckiendbdbchnaaTotals.lean).
  GIVEN WITH THE SEED: the statements are not yours to turn. If you find one false, say at which input.
  Laid BY PROGRAM, IN A SANDBOX (cutbox-rows.mjs): the forced cells as the released guide's own fill.sh prints them over the translation 587afdc68eb6bc46… (all of the seat's roots in one cut). By AI agents, Wed Nov 11 2026. No macro, syntax, notation, axiom, sorry.
-/
import Derived.Test.YtckiendbdbchnaaChecked
import GoSem.Claim
import GoSem.ClaimJoined
import GoSem.ClaimMapViews
import Derived.JoinedTies
import Derived.KernelRfl
namespace Go.Proofs.Ytckiendbdbchnaa
/- THE CELL 'sum', in the pinned program and in every row, IS THE sha256 OF THE DUMP (.gsa) THAT YtckiendbdbchnaaProg.lean LOADS. Nothing in Lean hashes anything: it is a label: what it is worth is what the hold of that sum in a sandbox is worth. -/
noncomputable def Try.pinned : Pinned := { name := "ytckiendbdbchnaa", sum := "587afdc68eb6bc46fe9ec8fa244d47830ff071cfaf514509dd4fac2cf8ed9ff6", checked := Try.checked }
namespace Rows
def none {H : Type} : Left H := { results := [], args := [] }

/-- 'laws.FnExactIndexOf': WHATEVER THE INPUT: true; the input reads as it did. -/
def fnExactIndexOfSpec : ChangeSpec := { name := "fnExactIndexOf", fn := fun _ => fun
  | [d1, d2] => { results := [.lit (.bool true)], args := [d1, d2] }
  | _ => none }
def fnExactIndexOfRow : OpenClaim := { program := "ytckiendbdbchnaa", sum := "587afdc68eb6bc46fe9ec8fa244d47830ff071cfaf514509dd4fac2cf8ed9ff6", func := "loop.example/g00584/laws.FnExactIndexOf", spec := "fnExactIndexOf", apart := false }
def FnExactIndexOfSaid : Prop := fnExactIndexOfRow.holds Try.pinned (OpenSpec.ofChange fnExactIndexOfSpec)

/-- ITS FALSE NEIGHBOUR: 'it returns false'. Refute it at one input. -/
def fnExactIndexOfWrong : ChangeSpec := { name := "fnExactIndexOf", fn := fun _ => fun
  | [d1, d2] => { results := [.lit (.bool false)], args := [d1, d2] }
  | _ => none }
def FnExactIndexOfWrongFalsely : Prop := fnExactIndexOfRow.holds Try.pinned (OpenSpec.ofChange fnExactIndexOfWrong)

/-- 'laws.FnExactSizeOf': WHATEVER THE INPUT: true; the input reads as it did. -/
def fnExactSizeOfSpec : ChangeSpec := { name := "fnExactSizeOf", fn := fun _ => fun
  | [d] => { results := [.lit (.bool true)], args := [d] }
  | _ => none }
def fnExactSizeOfRow : OpenClaim := { program := "ytckiendbdbchnaa", sum := "587afdc68eb6bc46fe9ec8fa244d47830ff071cfaf514509dd4fac2cf8ed9ff6", func := "loop.example/g00584/laws.FnExactSizeOf", spec := "fnExactSizeOf", recurses := true, loops := true, apart := false }
def FnExactSizeOfSaid : Prop := fnExactSizeOfRow.holds Try.pinned (OpenSpec.ofChange fnExactSizeOfSpec)

/-- ITS FALSE NEIGHBOUR: 'it returns false'. Refute it at one input. -/
def fnExactSizeOfWrong : ChangeSpec := { name := "fnExactSizeOf", fn := fun _ => fun
  | [d] => { results := [.lit (.bool false)], args := [d] }
  | _ => none }
def FnExactSizeOfWrongFalsely : Prop := fnExactSizeOfRow.holds Try.pinned (OpenSpec.ofChange fnExactSizeOfWrong)

/-- 'laws.FnExactDepthOf': WHATEVER THE INPUT: true; the input reads as it did. -/
def fnExactDepthOfSpec : ChangeSpec := { name := "fnExactDepthOf", fn := fun _ => fun
  | [d] => { results := [.lit (.bool true)], args := [d] }
  | _ => none }
def fnExactDepthOfRow : OpenClaim := { program := "ytckiendbdbchnaa", sum := "587afdc68eb6bc46fe9ec8fa244d47830ff071cfaf514509dd4fac2cf8ed9ff6", func := "loop.example/g00584/laws.FnExactDepthOf", spec := "fnExactDepthOf", recurses := true, loops := true, apart := false }
def FnExactDepthOfSaid : Prop := fnExactDepthOfRow.holds Try.pinned (OpenSpec.ofChange fnExactDepthOfSpec)

/-- ITS FALSE NEIGHBOUR: 'it returns false'. Refute it at one input. -/
def fnExactDepthOfWrong : ChangeSpec := { name := "fnExactDepthOf", fn := fun _ => fun
  | [d] => { results := [.lit (.bool false)], args := [d] }
  | _ => none }
def FnExactDepthOfWrongFalsely : Prop := fnExactDepthOfRow.holds Try.pinned (OpenSpec.ofChange fnExactDepthOfWrong)

/-- 'laws.FnExactEqualExpr': WHATEVER THE INPUT: true; the input reads as it did. -/
def fnExactEqualExprSpec : ChangeSpec := { name := "fnExactEqualExpr", fn := fun _ => fun
  | [d1, d2] => { results := [.lit (.bool true)], args := [d1, d2] }
  | _ => none }
def fnExactEqualExprRow : OpenClaim := { program := "ytckiendbdbchnaa", sum := "587afdc68eb6bc46fe9ec8fa244d47830ff071cfaf514509dd4fac2cf8ed9ff6", func := "loop.example/g00584/laws.FnExactEqualExpr", spec := "fnExactEqualExpr", unfollowed := true, recurses := true, loops := true, apart := false }
def FnExactEqualExprSaid : Prop := fnExactEqualExprRow.holds Try.pinned (OpenSpec.ofChange fnExactEqualExprSpec)

/-- ITS FALSE NEIGHBOUR: 'it returns false'. Refute it at one input. -/
def fnExactEqualExprWrong : ChangeSpec := { name := "fnExactEqualExpr", fn := fun _ => fun
  | [d1, d2] => { results := [.lit (.bool false)], args := [d1, d2] }
  | _ => none }
def FnExactEqualExprWrongFalsely : Prop := fnExactEqualExprRow.holds Try.pinned (OpenSpec.ofChange fnExactEqualExprWrong)

/-- 'laws.FnExactCallsOf': WHATEVER THE INPUT: true; the input reads as it did. -/
def fnExactCallsOfSpec : ChangeSpec := { name := "fnExactCallsOf", fn := fun _ => fun
  | [d] => { results := [.lit (.bool true)], args := [d] }
  | _ => none }
def fnExactCallsOfRow : OpenClaim := { program := "ytckiendbdbchnaa", sum := "587afdc68eb6bc46fe9ec8fa244d47830ff071cfaf514509dd4fac2cf8ed9ff6", func := "loop.example/g00584/laws.FnExactCallsOf", spec := "fnExactCallsOf", unfollowed := true, recurses := true, loops := true, apart := false }
def FnExactCallsOfSaid : Prop := fnExactCallsOfRow.holds Try.pinned (OpenSpec.ofChange fnExactCallsOfSpec)

/-- ITS FALSE NEIGHBOUR: 'it returns false'. Refute it at one input. -/
def fnExactCallsOfWrong : ChangeSpec := { name := "fnExactCallsOf", fn := fun _ => fun
  | [d] => { results := [.lit (.bool false)], args := [d] }
  | _ => none }
def FnExactCallsOfWrongFalsely : Prop := fnExactCallsOfRow.holds Try.pinned (OpenSpec.ofChange fnExactCallsOfWrong)

/-- 'laws.FnExactAllDistinct': WHATEVER THE INPUT: true; the input reads as it did. -/
def fnExactAllDistinctSpec : ChangeSpec := { name := "fnExactAllDistinct", fn := fun _ => fun
  | [d] => { results := [.lit (.bool true)], args := [d] }
  | _ => none }
def fnExactAllDistinctRow : OpenClaim := { program := "ytckiendbdbchnaa", sum := "587afdc68eb6bc46fe9ec8fa244d47830ff071cfaf514509dd4fac2cf8ed9ff6", func := "loop.example/g00584/laws.FnExactAllDistinct", spec := "fnExactAllDistinct", apart := false }
def FnExactAllDistinctSaid : Prop := fnExactAllDistinctRow.holds Try.pinned (OpenSpec.ofChange fnExactAllDistinctSpec)

/-- ITS FALSE NEIGHBOUR: 'it returns false'. Refute it at one input. -/
def fnExactAllDistinctWrong : ChangeSpec := { name := "fnExactAllDistinct", fn := fun _ => fun
  | [d] => { results := [.lit (.bool false)], args := [d] }
  | _ => none }
def FnExactAllDistinctWrongFalsely : Prop := fnExactAllDistinctRow.holds Try.pinned (OpenSpec.ofChange fnExactAllDistinctWrong)

/-- 'laws.FnExactUniteNames': WHATEVER THE INPUT: true; the input reads as it did. -/
def fnExactUniteNamesSpec : ChangeSpec := { name := "fnExactUniteNames", fn := fun _ => fun
  | [d1, d2] => { results := [.lit (.bool true)], args := [d1, d2] }
  | _ => none }
def fnExactUniteNamesRow : OpenClaim := { program := "ytckiendbdbchnaa", sum := "587afdc68eb6bc46fe9ec8fa244d47830ff071cfaf514509dd4fac2cf8ed9ff6", func := "loop.example/g00584/laws.FnExactUniteNames", spec := "fnExactUniteNames", apart := false }
def FnExactUniteNamesSaid : Prop := fnExactUniteNamesRow.holds Try.pinned (OpenSpec.ofChange fnExactUniteNamesSpec)

/-- ITS FALSE NEIGHBOUR: 'it returns false'. Refute it at one input. -/
def fnExactUniteNamesWrong : ChangeSpec := { name := "fnExactUniteNames", fn := fun _ => fun
  | [d1, d2] => { results := [.lit (.bool false)], args := [d1, d2] }
  | _ => none }
def FnExactUniteNamesWrongFalsely : Prop := fnExactUniteNamesRow.holds Try.pinned (OpenSpec.ofChange fnExactUniteNamesWrong)

/-- 'laws.FnExactCouples': WHATEVER THE INPUT: true; the input reads as it did. -/
def fnExactCouplesSpec : ChangeSpec := { name := "fnExactCouples", fn := fun _ => fun
  | [d1, d2] => { results := [.lit (.bool true)], args := [d1, d2] }
  | _ => none }
def fnExactCouplesRow : OpenClaim := { program := "ytckiendbdbchnaa", sum := "587afdc68eb6bc46fe9ec8fa244d47830ff071cfaf514509dd4fac2cf8ed9ff6", func := "loop.example/g00584/laws.FnExactCouples", spec := "fnExactCouples", recurses := true, loops := true, apart := false }
def FnExactCouplesSaid : Prop := fnExactCouplesRow.holds Try.pinned (OpenSpec.ofChange fnExactCouplesSpec)

/-- ITS FALSE NEIGHBOUR: 'it returns false'. Refute it at one input. -/
def fnExactCouplesWrong : ChangeSpec := { name := "fnExactCouples", fn := fun _ => fun
  | [d1, d2] => { results := [.lit (.bool false)], args := [d1, d2] }
  | _ => none }
def FnExactCouplesWrongFalsely : Prop := fnExactCouplesRow.holds Try.pinned (OpenSpec.ofChange fnExactCouplesWrong)

/-- 'laws.FnExactEmbeds': WHATEVER THE INPUT: true; the input reads as it did. -/
def fnExactEmbedsSpec : ChangeSpec := { name := "fnExactEmbeds", fn := fun _ => fun
  | [d1, d2] => { results := [.lit (.bool true)], args := [d1, d2] }
  | _ => none }
def fnExactEmbedsRow : OpenClaim := { program := "ytckiendbdbchnaa", sum := "587afdc68eb6bc46fe9ec8fa244d47830ff071cfaf514509dd4fac2cf8ed9ff6", func := "loop.example/g00584/laws.FnExactEmbeds", spec := "fnExactEmbeds", recurses := true, loops := true, apart := false }
def FnExactEmbedsSaid : Prop := fnExactEmbedsRow.holds Try.pinned (OpenSpec.ofChange fnExactEmbedsSpec)

/-- ITS FALSE NEIGHBOUR: 'it returns false'. Refute it at one input. -/
def fnExactEmbedsWrong : ChangeSpec := { name := "fnExactEmbeds", fn := fun _ => fun
  | [d1, d2] => { results := [.lit (.bool false)], args := [d1, d2] }
  | _ => none }
def FnExactEmbedsWrongFalsely : Prop := fnExactEmbedsRow.holds Try.pinned (OpenSpec.ofChange fnExactEmbedsWrong)

/-- 'laws.FnExactFirstEmbedded': WHATEVER THE INPUT: true; the input reads as it did. -/
def fnExactFirstEmbeddedSpec : ChangeSpec := { name := "fnExactFirstEmbedded", fn := fun _ => fun
  | [d] => { results := [.lit (.bool true)], args := [d] }
  | _ => none }
def fnExactFirstEmbeddedRow : OpenClaim := { program := "ytckiendbdbchnaa", sum := "587afdc68eb6bc46fe9ec8fa244d47830ff071cfaf514509dd4fac2cf8ed9ff6", func := "loop.example/g00584/laws.FnExactFirstEmbedded", spec := "fnExactFirstEmbedded", recurses := true, loops := true, apart := false }
def FnExactFirstEmbeddedSaid : Prop := fnExactFirstEmbeddedRow.holds Try.pinned (OpenSpec.ofChange fnExactFirstEmbeddedSpec)

/-- ITS FALSE NEIGHBOUR: 'it returns false'. Refute it at one input. -/
def fnExactFirstEmbeddedWrong : ChangeSpec := { name := "fnExactFirstEmbedded", fn := fun _ => fun
  | [d] => { results := [.lit (.bool false)], args := [d] }
  | _ => none }
def FnExactFirstEmbeddedWrongFalsely : Prop := fnExactFirstEmbeddedRow.holds Try.pinned (OpenSpec.ofChange fnExactFirstEmbeddedWrong)

/-- 'laws.FnExactIsValidExpr': WHATEVER THE INPUT: true; the input reads as it did. -/
def fnExactIsValidExprSpec : ChangeSpec := { name := "fnExactIsValidExpr", fn := fun _ => fun
  | [d] => { results := [.lit (.bool true)], args := [d] }
  | _ => none }
def fnExactIsValidExprRow : OpenClaim := { program := "ytckiendbdbchnaa", sum := "587afdc68eb6bc46fe9ec8fa244d47830ff071cfaf514509dd4fac2cf8ed9ff6", func := "loop.example/g00584/laws.FnExactIsValidExpr", spec := "fnExactIsValidExpr", recurses := true, loops := true, apart := false }
def FnExactIsValidExprSaid : Prop := fnExactIsValidExprRow.holds Try.pinned (OpenSpec.ofChange fnExactIsValidExprSpec)

/-- ITS FALSE NEIGHBOUR: 'it returns false'. Refute it at one input. -/
def fnExactIsValidExprWrong : ChangeSpec := { name := "fnExactIsValidExpr", fn := fun _ => fun
  | [d] => { results := [.lit (.bool false)], args := [d] }
  | _ => none }
def FnExactIsValidExprWrongFalsely : Prop := fnExactIsValidExprRow.holds Try.pinned (OpenSpec.ofChange fnExactIsValidExprWrong)

/-- 'laws.FnExactIsData': WHATEVER THE INPUT: true; the input reads as it did. -/
def fnExactIsDataSpec : ChangeSpec := { name := "fnExactIsData", fn := fun _ => fun
  | [d] => { results := [.lit (.bool true)], args := [d] }
  | _ => none }
def fnExactIsDataRow : OpenClaim := { program := "ytckiendbdbchnaa", sum := "587afdc68eb6bc46fe9ec8fa244d47830ff071cfaf514509dd4fac2cf8ed9ff6", func := "loop.example/g00584/laws.FnExactIsData", spec := "fnExactIsData", unfollowed := true, recurses := true, loops := true, apart := false }
def FnExactIsDataSaid : Prop := fnExactIsDataRow.holds Try.pinned (OpenSpec.ofChange fnExactIsDataSpec)

/-- ITS FALSE NEIGHBOUR: 'it returns false'. Refute it at one input. -/
def fnExactIsDataWrong : ChangeSpec := { name := "fnExactIsData", fn := fun _ => fun
  | [d] => { results := [.lit (.bool false)], args := [d] }
  | _ => none }
def FnExactIsDataWrongFalsely : Prop := fnExactIsDataRow.holds Try.pinned (OpenSpec.ofChange fnExactIsDataWrong)

/- THE SECOND FORM. 'bulk': how many values and letters a reading holds, each counted each time it is reached (what is shared counts as often as it is met; a slice's spare places count too). A statement '..UptoSaid' is the law's where the arguments, and the package variables that the reading takes, are together of bulk at most 1048576: NARROWER than '..Said'. Prove '..Said' where nothing that the law and all that it calls make is longer than what came in: it says more and counts as full. Else prove '..UptoSaid'. A law counts once. -/
mutual
def uptoBulk {H : Type} : DataW H → Nat
  | .lit (.string bytes) => bytes.length + 1
  | .lit _ => 1
  | .nil => 1
  | .ptr d => uptoBulk d + 1
  | .slice elems spare => uptoBulkAll elems + uptoBulkAll spare + 1
  | .agg parts => uptoBulkAll parts + 1
  | .iface _ d => uptoBulk d + 1
  | .map entries => uptoBulkEntries entries + 1
  | .held _ => 1
def uptoBulkAll {H : Type} : List (DataW H) → Nat
  | [] => 0
  | d :: r => uptoBulk d + uptoBulkAll r
def uptoBulkEntries {H : Type} : List (Lit × DataW H) → Nat
  | [] => 0
  | x :: r => uptoBulkEntry x + uptoBulkEntries r
def uptoBulkEntry {H : Type} : Lit × DataW H → Nat
  | (.string bytes, d) => bytes.length + uptoBulk d + 1
  | (_, d) => uptoBulk d + 1
 end
def uptoSmall : (H : Type) → List (DataW H) → Bool := fun _ ds => decide (uptoBulkAll ds ≤ 1048576)
def OpenSpec.upto (s : _root_.Go.ChangeSpec) : _root_.Go.OpenSpec := { _root_.Go.OpenSpec.ofChange s with cond := some uptoSmall }

/-- 'laws.FnExactIndexOf', WHERE WHAT IT READS IS OF BULK AT MOST 1048576: true; the input reads as it did. -/
def fnExactIndexOfUptoRow : OpenClaim := { program := "ytckiendbdbchnaa", sum := "587afdc68eb6bc46fe9ec8fa244d47830ff071cfaf514509dd4fac2cf8ed9ff6", func := "loop.example/g00584/laws.FnExactIndexOf", spec := "fnExactIndexOf", apart := false, narrowed := true }
def FnExactIndexOfUptoSaid : Prop := fnExactIndexOfUptoRow.holds Try.pinned (OpenSpec.upto fnExactIndexOfSpec)

/-- 'laws.FnExactSizeOf', WHERE WHAT IT READS IS OF BULK AT MOST 1048576: true; the input reads as it did. -/
def fnExactSizeOfUptoRow : OpenClaim := { program := "ytckiendbdbchnaa", sum := "587afdc68eb6bc46fe9ec8fa244d47830ff071cfaf514509dd4fac2cf8ed9ff6", func := "loop.example/g00584/laws.FnExactSizeOf", spec := "fnExactSizeOf", recurses := true, loops := true, apart := false, narrowed := true }
def FnExactSizeOfUptoSaid : Prop := fnExactSizeOfUptoRow.holds Try.pinned (OpenSpec.upto fnExactSizeOfSpec)

/-- 'laws.FnExactDepthOf', WHERE WHAT IT READS IS OF BULK AT MOST 1048576: true; the input reads as it did. -/
def fnExactDepthOfUptoRow : OpenClaim := { program := "ytckiendbdbchnaa", sum := "587afdc68eb6bc46fe9ec8fa244d47830ff071cfaf514509dd4fac2cf8ed9ff6", func := "loop.example/g00584/laws.FnExactDepthOf", spec := "fnExactDepthOf", recurses := true, loops := true, apart := false, narrowed := true }
def FnExactDepthOfUptoSaid : Prop := fnExactDepthOfUptoRow.holds Try.pinned (OpenSpec.upto fnExactDepthOfSpec)

/-- 'laws.FnExactEqualExpr', WHERE WHAT IT READS IS OF BULK AT MOST 1048576: true; the input reads as it did. -/
def fnExactEqualExprUptoRow : OpenClaim := { program := "ytckiendbdbchnaa", sum := "587afdc68eb6bc46fe9ec8fa244d47830ff071cfaf514509dd4fac2cf8ed9ff6", func := "loop.example/g00584/laws.FnExactEqualExpr", spec := "fnExactEqualExpr", unfollowed := true, recurses := true, loops := true, apart := false, narrowed := true }
def FnExactEqualExprUptoSaid : Prop := fnExactEqualExprUptoRow.holds Try.pinned (OpenSpec.upto fnExactEqualExprSpec)

/-- 'laws.FnExactCallsOf', WHERE WHAT IT READS IS OF BULK AT MOST 1048576: true; the input reads as it did. -/
def fnExactCallsOfUptoRow : OpenClaim := { program := "ytckiendbdbchnaa", sum := "587afdc68eb6bc46fe9ec8fa244d47830ff071cfaf514509dd4fac2cf8ed9ff6", func := "loop.example/g00584/laws.FnExactCallsOf", spec := "fnExactCallsOf", unfollowed := true, recurses := true, loops := true, apart := false, narrowed := true }
def FnExactCallsOfUptoSaid : Prop := fnExactCallsOfUptoRow.holds Try.pinned (OpenSpec.upto fnExactCallsOfSpec)

/-- 'laws.FnExactAllDistinct', WHERE WHAT IT READS IS OF BULK AT MOST 1048576: true; the input reads as it did. -/
def fnExactAllDistinctUptoRow : OpenClaim := { program := "ytckiendbdbchnaa", sum := "587afdc68eb6bc46fe9ec8fa244d47830ff071cfaf514509dd4fac2cf8ed9ff6", func := "loop.example/g00584/laws.FnExactAllDistinct", spec := "fnExactAllDistinct", apart := false, narrowed := true }
def FnExactAllDistinctUptoSaid : Prop := fnExactAllDistinctUptoRow.holds Try.pinned (OpenSpec.upto fnExactAllDistinctSpec)

/-- 'laws.FnExactUniteNames', WHERE WHAT IT READS IS OF BULK AT MOST 1048576: true; the input reads as it did. -/
def fnExactUniteNamesUptoRow : OpenClaim := { program := "ytckiendbdbchnaa", sum := "587afdc68eb6bc46fe9ec8fa244d47830ff071cfaf514509dd4fac2cf8ed9ff6", func := "loop.example/g00584/laws.FnExactUniteNames", spec := "fnExactUniteNames", apart := false, narrowed := true }
def FnExactUniteNamesUptoSaid : Prop := fnExactUniteNamesUptoRow.holds Try.pinned (OpenSpec.upto fnExactUniteNamesSpec)

/-- 'laws.FnExactCouples', WHERE WHAT IT READS IS OF BULK AT MOST 1048576: true; the input reads as it did. -/
def fnExactCouplesUptoRow : OpenClaim := { program := "ytckiendbdbchnaa", sum := "587afdc68eb6bc46fe9ec8fa244d47830ff071cfaf514509dd4fac2cf8ed9ff6", func := "loop.example/g00584/laws.FnExactCouples", spec := "fnExactCouples", recurses := true, loops := true, apart := false, narrowed := true }
def FnExactCouplesUptoSaid : Prop := fnExactCouplesUptoRow.holds Try.pinned (OpenSpec.upto fnExactCouplesSpec)

/-- 'laws.FnExactEmbeds', WHERE WHAT IT READS IS OF BULK AT MOST 1048576: true; the input reads as it did. -/
def fnExactEmbedsUptoRow : OpenClaim := { program := "ytckiendbdbchnaa", sum := "587afdc68eb6bc46fe9ec8fa244d47830ff071cfaf514509dd4fac2cf8ed9ff6", func := "loop.example/g00584/laws.FnExactEmbeds", spec := "fnExactEmbeds", recurses := true, loops := true, apart := false, narrowed := true }
def FnExactEmbedsUptoSaid : Prop := fnExactEmbedsUptoRow.holds Try.pinned (OpenSpec.upto fnExactEmbedsSpec)

/-- 'laws.FnExactFirstEmbedded', WHERE WHAT IT READS IS OF BULK AT MOST 1048576: true; the input reads as it did. -/
def fnExactFirstEmbeddedUptoRow : OpenClaim := { program := "ytckiendbdbchnaa", sum := "587afdc68eb6bc46fe9ec8fa244d47830ff071cfaf514509dd4fac2cf8ed9ff6", func := "loop.example/g00584/laws.FnExactFirstEmbedded", spec := "fnExactFirstEmbedded", recurses := true, loops := true, apart := false, narrowed := true }
def FnExactFirstEmbeddedUptoSaid : Prop := fnExactFirstEmbeddedUptoRow.holds Try.pinned (OpenSpec.upto fnExactFirstEmbeddedSpec)

/-- 'laws.FnExactIsValidExpr', WHERE WHAT IT READS IS OF BULK AT MOST 1048576: true; the input reads as it did. -/
def fnExactIsValidExprUptoRow : OpenClaim := { program := "ytckiendbdbchnaa", sum := "587afdc68eb6bc46fe9ec8fa244d47830ff071cfaf514509dd4fac2cf8ed9ff6", func := "loop.example/g00584/laws.FnExactIsValidExpr", spec := "fnExactIsValidExpr", recurses := true, loops := true, apart := false, narrowed := true }
def FnExactIsValidExprUptoSaid : Prop := fnExactIsValidExprUptoRow.holds Try.pinned (OpenSpec.upto fnExactIsValidExprSpec)

/-- 'laws.FnExactIsData', WHERE WHAT IT READS IS OF BULK AT MOST 1048576: true; the input reads as it did. -/
def fnExactIsDataUptoRow : OpenClaim := { program := "ytckiendbdbchnaa", sum := "587afdc68eb6bc46fe9ec8fa244d47830ff071cfaf514509dd4fac2cf8ed9ff6", func := "loop.example/g00584/laws.FnExactIsData", spec := "fnExactIsData", unfollowed := true, recurses := true, loops := true, apart := false, narrowed := true }
def FnExactIsDataUptoSaid : Prop := fnExactIsDataUptoRow.holds Try.pinned (OpenSpec.upto fnExactIsDataSpec)

end Rows
end Go.Proofs.Ytckiendbdbchnaa
