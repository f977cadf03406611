/-
  NARROWER THAN 'FOR EVERY INPUT', by the rows' own cells (each row's printed sentence says how): FnExactVarsOf: loops · FnExactIsInstance: loops · FnExactIsGeneral: loops · FnExactFindBinding: loops · FnExactCouples: loops · FnExactEmbeds: loops · FnExactFirstEmbedded: loops · FnExactIsExprFor: loops.
  DERIVED. THE GIVEN ROWS OF THIS SEAT. 11 by the template 'for every input the law returns true; each argument reads behind the call as it read before'; 0 by the template 'total and deterministic' (their statements: YtlooiifgbiedeaaTotals.lean).
  GIVEN WITH THE SEED: the statements are not yours to turn. If you find one false, say at which input.
  Laid BY PROGRAM, IN A SANDBOX (cutbox-rows.mjs): the forced cells as the released guide's own fill.sh prints them over the translation 587c570ae273d2c7… (all of the seat's roots in one cut). By AI agents, Wed Nov 11 2026. No macro, syntax, notation, axiom, sorry.
-/
import Derived.Test.YtlooiifgbiedeaaChecked
import GoSem.Claim
import GoSem.ClaimJoined
import GoSem.ClaimMapViews
import Derived.JoinedTies
import Derived.KernelRfl
namespace Go.Proofs.Ytlooiifgbiedeaa
/- THE CELL 'sum', in the pinned program and in every row, IS THE sha256 OF THE DUMP (.gsa) THAT YtlooiifgbiedeaaProg.lean LOADS. Nothing in Lean hashes anything: it is a label: what it is worth is what the hold of that sum in a sandbox is worth. -/
noncomputable def Try.pinned : Pinned := { name := "ytlooiifgbiedeaa", sum := "587c570ae273d2c7e90c40af4a9ad35f7b7c9b17d90e14ebda46f3d6e8c49b64", checked := Try.checked }
namespace Rows
def none {H : Type} : Left H := { results := [], args := [] }

/-- 'laws.FnExactAllDistinct': WHATEVER THE INPUT: true; the input reads as it did. -/
def fnExactAllDistinctSpec : ChangeSpec := { name := "fnExactAllDistinct", fn := fun _ => fun
  | [d] => { results := [.lit (.bool true)], args := [d] }
  | _ => none }
def fnExactAllDistinctRow : OpenClaim := { program := "ytlooiifgbiedeaa", sum := "587c570ae273d2c7e90c40af4a9ad35f7b7c9b17d90e14ebda46f3d6e8c49b64", func := "loop.example/g00584/laws.FnExactAllDistinct", spec := "fnExactAllDistinct", apart := false }
def FnExactAllDistinctSaid : Prop := fnExactAllDistinctRow.holds Try.pinned (OpenSpec.ofChange fnExactAllDistinctSpec)

/-- ITS FALSE NEIGHBOUR: 'it returns false'. Refute it at one input. -/
def fnExactAllDistinctWrong : ChangeSpec := { name := "fnExactAllDistinct", fn := fun _ => fun
  | [d] => { results := [.lit (.bool false)], args := [d] }
  | _ => none }
def FnExactAllDistinctWrongFalsely : Prop := fnExactAllDistinctRow.holds Try.pinned (OpenSpec.ofChange fnExactAllDistinctWrong)

/-- 'laws.FnExactUniteNames': WHATEVER THE INPUT: true; the input reads as it did. -/
def fnExactUniteNamesSpec : ChangeSpec := { name := "fnExactUniteNames", fn := fun _ => fun
  | [d1, d2] => { results := [.lit (.bool true)], args := [d1, d2] }
  | _ => none }
def fnExactUniteNamesRow : OpenClaim := { program := "ytlooiifgbiedeaa", sum := "587c570ae273d2c7e90c40af4a9ad35f7b7c9b17d90e14ebda46f3d6e8c49b64", func := "loop.example/g00584/laws.FnExactUniteNames", spec := "fnExactUniteNames", apart := false }
def FnExactUniteNamesSaid : Prop := fnExactUniteNamesRow.holds Try.pinned (OpenSpec.ofChange fnExactUniteNamesSpec)

/-- ITS FALSE NEIGHBOUR: 'it returns false'. Refute it at one input. -/
def fnExactUniteNamesWrong : ChangeSpec := { name := "fnExactUniteNames", fn := fun _ => fun
  | [d1, d2] => { results := [.lit (.bool false)], args := [d1, d2] }
  | _ => none }
def FnExactUniteNamesWrongFalsely : Prop := fnExactUniteNamesRow.holds Try.pinned (OpenSpec.ofChange fnExactUniteNamesWrong)

/-- 'laws.FnExactJoin': WHATEVER THE INPUT: true; the input reads as it did. -/
def fnExactJoinSpec : ChangeSpec := { name := "fnExactJoin", fn := fun _ => fun
  | [d1, d2] => { results := [.lit (.bool true)], args := [d1, d2] }
  | _ => none }
def fnExactJoinRow : OpenClaim := { program := "ytlooiifgbiedeaa", sum := "587c570ae273d2c7e90c40af4a9ad35f7b7c9b17d90e14ebda46f3d6e8c49b64", func := "loop.example/g00584/laws.FnExactJoin", spec := "fnExactJoin", inPlace := ["internal/abi.NoEscape", "internal/bytealg.MakeNoZero"], apart := false }
def FnExactJoinSaid : Prop := fnExactJoinRow.holds Try.pinned (OpenSpec.ofChange fnExactJoinSpec)

/-- ITS FALSE NEIGHBOUR: 'it returns false'. Refute it at one input. -/
def fnExactJoinWrong : ChangeSpec := { name := "fnExactJoin", fn := fun _ => fun
  | [d1, d2] => { results := [.lit (.bool false)], args := [d1, d2] }
  | _ => none }
def FnExactJoinWrongFalsely : Prop := fnExactJoinRow.holds Try.pinned (OpenSpec.ofChange fnExactJoinWrong)

/-- 'laws.FnExactVarsOf': WHATEVER THE INPUT: true; the input reads as it did. -/
def fnExactVarsOfSpec : ChangeSpec := { name := "fnExactVarsOf", fn := fun _ => fun
  | [d] => { results := [.lit (.bool true)], args := [d] }
  | _ => none }
def fnExactVarsOfRow : OpenClaim := { program := "ytlooiifgbiedeaa", sum := "587c570ae273d2c7e90c40af4a9ad35f7b7c9b17d90e14ebda46f3d6e8c49b64", func := "loop.example/g00584/laws.FnExactVarsOf", spec := "fnExactVarsOf", unfollowed := true, recurses := true, loops := true, apart := false }
def FnExactVarsOfSaid : Prop := fnExactVarsOfRow.holds Try.pinned (OpenSpec.ofChange fnExactVarsOfSpec)

/-- ITS FALSE NEIGHBOUR: 'it returns false'. Refute it at one input. -/
def fnExactVarsOfWrong : ChangeSpec := { name := "fnExactVarsOf", fn := fun _ => fun
  | [d] => { results := [.lit (.bool false)], args := [d] }
  | _ => none }
def FnExactVarsOfWrongFalsely : Prop := fnExactVarsOfRow.holds Try.pinned (OpenSpec.ofChange fnExactVarsOfWrong)

/-- 'laws.FnExactIsInstance': WHATEVER THE INPUT: true; the input reads as it did. -/
def fnExactIsInstanceSpec : ChangeSpec := { name := "fnExactIsInstance", fn := fun _ => fun
  | [d1, d2] => { results := [.lit (.bool true)], args := [d1, d2] }
  | _ => none }
def fnExactIsInstanceRow : OpenClaim := { program := "ytlooiifgbiedeaa", sum := "587c570ae273d2c7e90c40af4a9ad35f7b7c9b17d90e14ebda46f3d6e8c49b64", func := "loop.example/g00584/laws.FnExactIsInstance", spec := "fnExactIsInstance", unfollowed := true, recurses := true, loops := true, apart := false }
def FnExactIsInstanceSaid : Prop := fnExactIsInstanceRow.holds Try.pinned (OpenSpec.ofChange fnExactIsInstanceSpec)

/-- ITS FALSE NEIGHBOUR: 'it returns false'. Refute it at one input. -/
def fnExactIsInstanceWrong : ChangeSpec := { name := "fnExactIsInstance", fn := fun _ => fun
  | [d1, d2] => { results := [.lit (.bool false)], args := [d1, d2] }
  | _ => none }
def FnExactIsInstanceWrongFalsely : Prop := fnExactIsInstanceRow.holds Try.pinned (OpenSpec.ofChange fnExactIsInstanceWrong)

/-- 'laws.FnExactIsGeneral': WHATEVER THE INPUT: true; the input reads as it did. -/
def fnExactIsGeneralSpec : ChangeSpec := { name := "fnExactIsGeneral", fn := fun _ => fun
  | [d1, d2] => { results := [.lit (.bool true)], args := [d1, d2] }
  | _ => none }
def fnExactIsGeneralRow : OpenClaim := { program := "ytlooiifgbiedeaa", sum := "587c570ae273d2c7e90c40af4a9ad35f7b7c9b17d90e14ebda46f3d6e8c49b64", func := "loop.example/g00584/laws.FnExactIsGeneral", spec := "fnExactIsGeneral", unfollowed := true, recurses := true, loops := true, apart := false }
def FnExactIsGeneralSaid : Prop := fnExactIsGeneralRow.holds Try.pinned (OpenSpec.ofChange fnExactIsGeneralSpec)

/-- ITS FALSE NEIGHBOUR: 'it returns false'. Refute it at one input. -/
def fnExactIsGeneralWrong : ChangeSpec := { name := "fnExactIsGeneral", fn := fun _ => fun
  | [d1, d2] => { results := [.lit (.bool false)], args := [d1, d2] }
  | _ => none }
def FnExactIsGeneralWrongFalsely : Prop := fnExactIsGeneralRow.holds Try.pinned (OpenSpec.ofChange fnExactIsGeneralWrong)

/-- 'laws.FnExactFindBinding': WHATEVER THE INPUT: true; the input reads as it did. -/
def fnExactFindBindingSpec : ChangeSpec := { name := "fnExactFindBinding", fn := fun _ => fun
  | [d1, d2] => { results := [.lit (.bool true)], args := [d1, d2] }
  | _ => none }
def fnExactFindBindingRow : OpenClaim := { program := "ytlooiifgbiedeaa", sum := "587c570ae273d2c7e90c40af4a9ad35f7b7c9b17d90e14ebda46f3d6e8c49b64", func := "loop.example/g00584/laws.FnExactFindBinding", spec := "fnExactFindBinding", recurses := true, loops := true, apart := false }
def FnExactFindBindingSaid : Prop := fnExactFindBindingRow.holds Try.pinned (OpenSpec.ofChange fnExactFindBindingSpec)

/-- ITS FALSE NEIGHBOUR: 'it returns false'. Refute it at one input. -/
def fnExactFindBindingWrong : ChangeSpec := { name := "fnExactFindBinding", fn := fun _ => fun
  | [d1, d2] => { results := [.lit (.bool false)], args := [d1, d2] }
  | _ => none }
def FnExactFindBindingWrongFalsely : Prop := fnExactFindBindingRow.holds Try.pinned (OpenSpec.ofChange fnExactFindBindingWrong)

/-- 'laws.FnExactCouples': WHATEVER THE INPUT: true; the input reads as it did. -/
def fnExactCouplesSpec : ChangeSpec := { name := "fnExactCouples", fn := fun _ => fun
  | [d1, d2] => { results := [.lit (.bool true)], args := [d1, d2] }
  | _ => none }
def fnExactCouplesRow : OpenClaim := { program := "ytlooiifgbiedeaa", sum := "587c570ae273d2c7e90c40af4a9ad35f7b7c9b17d90e14ebda46f3d6e8c49b64", func := "loop.example/g00584/laws.FnExactCouples", spec := "fnExactCouples", recurses := true, loops := true, apart := false }
def FnExactCouplesSaid : Prop := fnExactCouplesRow.holds Try.pinned (OpenSpec.ofChange fnExactCouplesSpec)

/-- ITS FALSE NEIGHBOUR: 'it returns false'. Refute it at one input. -/
def fnExactCouplesWrong : ChangeSpec := { name := "fnExactCouples", fn := fun _ => fun
  | [d1, d2] => { results := [.lit (.bool false)], args := [d1, d2] }
  | _ => none }
def FnExactCouplesWrongFalsely : Prop := fnExactCouplesRow.holds Try.pinned (OpenSpec.ofChange fnExactCouplesWrong)

/-- 'laws.FnExactEmbeds': WHATEVER THE INPUT: true; the input reads as it did. -/
def fnExactEmbedsSpec : ChangeSpec := { name := "fnExactEmbeds", fn := fun _ => fun
  | [d1, d2] => { results := [.lit (.bool true)], args := [d1, d2] }
  | _ => none }
def fnExactEmbedsRow : OpenClaim := { program := "ytlooiifgbiedeaa", sum := "587c570ae273d2c7e90c40af4a9ad35f7b7c9b17d90e14ebda46f3d6e8c49b64", func := "loop.example/g00584/laws.FnExactEmbeds", spec := "fnExactEmbeds", recurses := true, loops := true, apart := false }
def FnExactEmbedsSaid : Prop := fnExactEmbedsRow.holds Try.pinned (OpenSpec.ofChange fnExactEmbedsSpec)

/-- ITS FALSE NEIGHBOUR: 'it returns false'. Refute it at one input. -/
def fnExactEmbedsWrong : ChangeSpec := { name := "fnExactEmbeds", fn := fun _ => fun
  | [d1, d2] => { results := [.lit (.bool false)], args := [d1, d2] }
  | _ => none }
def FnExactEmbedsWrongFalsely : Prop := fnExactEmbedsRow.holds Try.pinned (OpenSpec.ofChange fnExactEmbedsWrong)

/-- 'laws.FnExactFirstEmbedded': WHATEVER THE INPUT: true; the input reads as it did. -/
def fnExactFirstEmbeddedSpec : ChangeSpec := { name := "fnExactFirstEmbedded", fn := fun _ => fun
  | [d] => { results := [.lit (.bool true)], args := [d] }
  | _ => none }
def fnExactFirstEmbeddedRow : OpenClaim := { program := "ytlooiifgbiedeaa", sum := "587c570ae273d2c7e90c40af4a9ad35f7b7c9b17d90e14ebda46f3d6e8c49b64", func := "loop.example/g00584/laws.FnExactFirstEmbedded", spec := "fnExactFirstEmbedded", recurses := true, loops := true, apart := false }
def FnExactFirstEmbeddedSaid : Prop := fnExactFirstEmbeddedRow.holds Try.pinned (OpenSpec.ofChange fnExactFirstEmbeddedSpec)

/-- ITS FALSE NEIGHBOUR: 'it returns false'. Refute it at one input. -/
def fnExactFirstEmbeddedWrong : ChangeSpec := { name := "fnExactFirstEmbedded", fn := fun _ => fun
  | [d] => { results := [.lit (.bool false)], args := [d] }
  | _ => none }
def FnExactFirstEmbeddedWrongFalsely : Prop := fnExactFirstEmbeddedRow.holds Try.pinned (OpenSpec.ofChange fnExactFirstEmbeddedWrong)

/-- 'laws.FnExactIsExprFor': WHATEVER THE INPUT: true; the input reads as it did. -/
def fnExactIsExprForSpec : ChangeSpec := { name := "fnExactIsExprFor", fn := fun _ => fun
  | [d1, d2] => { results := [.lit (.bool true)], args := [d1, d2] }
  | _ => none }
def fnExactIsExprForRow : OpenClaim := { program := "ytlooiifgbiedeaa", sum := "587c570ae273d2c7e90c40af4a9ad35f7b7c9b17d90e14ebda46f3d6e8c49b64", func := "loop.example/g00584/laws.FnExactIsExprFor", spec := "fnExactIsExprFor", unfollowed := true, recurses := true, loops := true, apart := false }
def FnExactIsExprForSaid : Prop := fnExactIsExprForRow.holds Try.pinned (OpenSpec.ofChange fnExactIsExprForSpec)

/-- ITS FALSE NEIGHBOUR: 'it returns false'. Refute it at one input. -/
def fnExactIsExprForWrong : ChangeSpec := { name := "fnExactIsExprFor", fn := fun _ => fun
  | [d1, d2] => { results := [.lit (.bool false)], args := [d1, d2] }
  | _ => none }
def FnExactIsExprForWrongFalsely : Prop := fnExactIsExprForRow.holds Try.pinned (OpenSpec.ofChange fnExactIsExprForWrong)

/- THE SECOND FORM. 'bulk': how many values and letters a reading holds, each counted each time it is reached (what is shared counts as often as it is met; a slice's spare places count too). A statement '..UptoSaid' is the law's where the arguments, and the package variables that the reading takes, are together of bulk at most 1048576: NARROWER than '..Said'. Prove '..Said' where nothing that the law and all that it calls make is longer than what came in: it says more and counts as full. Else prove '..UptoSaid'. A law counts once. -/
mutual
def uptoBulk {H : Type} : DataW H → Nat
  | .lit (.string bytes) => bytes.length + 1
  | .lit _ => 1
  | .nil => 1
  | .ptr d => uptoBulk d + 1
  | .slice elems spare => uptoBulkAll elems + uptoBulkAll spare + 1
  | .agg parts => uptoBulkAll parts + 1
  | .iface _ d => uptoBulk d + 1
  | .map entries => uptoBulkEntries entries + 1
  | .held _ => 1
def uptoBulkAll {H : Type} : List (DataW H) → Nat
  | [] => 0
  | d :: r => uptoBulk d + uptoBulkAll r
def uptoBulkEntries {H : Type} : List (Lit × DataW H) → Nat
  | [] => 0
  | x :: r => uptoBulkEntry x + uptoBulkEntries r
def uptoBulkEntry {H : Type} : Lit × DataW H → Nat
  | (.string bytes, d) => bytes.length + uptoBulk d + 1
  | (_, d) => uptoBulk d + 1
 end
def uptoSmall : (H : Type) → List (DataW H) → Bool := fun _ ds => decide (uptoBulkAll ds ≤ 1048576)
def OpenSpec.upto (s : _root_.Go.ChangeSpec) : _root_.Go.OpenSpec := { _root_.Go.OpenSpec.ofChange s with cond := some uptoSmall }

/-- 'laws.FnExactAllDistinct', WHERE WHAT IT READS IS OF BULK AT MOST 1048576: true; the input reads as it did. -/
def fnExactAllDistinctUptoRow : OpenClaim := { program := "ytlooiifgbiedeaa", sum := "587c570ae273d2c7e90c40af4a9ad35f7b7c9b17d90e14ebda46f3d6e8c49b64", func := "loop.example/g00584/laws.FnExactAllDistinct", spec := "fnExactAllDistinct", apart := false, narrowed := true }
def FnExactAllDistinctUptoSaid : Prop := fnExactAllDistinctUptoRow.holds Try.pinned (OpenSpec.upto fnExactAllDistinctSpec)

/-- 'laws.FnExactUniteNames', WHERE WHAT IT READS IS OF BULK AT MOST 1048576: true; the input reads as it did. -/
def fnExactUniteNamesUptoRow : OpenClaim := { program := "ytlooiifgbiedeaa", sum := "587c570ae273d2c7e90c40af4a9ad35f7b7c9b17d90e14ebda46f3d6e8c49b64", func := "loop.example/g00584/laws.FnExactUniteNames", spec := "fnExactUniteNames", apart := false, narrowed := true }
def FnExactUniteNamesUptoSaid : Prop := fnExactUniteNamesUptoRow.holds Try.pinned (OpenSpec.upto fnExactUniteNamesSpec)

/-- 'laws.FnExactJoin', WHERE WHAT IT READS IS OF BULK AT MOST 1048576: true; the input reads as it did. -/
def fnExactJoinUptoRow : OpenClaim := { program := "ytlooiifgbiedeaa", sum := "587c570ae273d2c7e90c40af4a9ad35f7b7c9b17d90e14ebda46f3d6e8c49b64", func := "loop.example/g00584/laws.FnExactJoin", spec := "fnExactJoin", inPlace := ["internal/abi.NoEscape", "internal/bytealg.MakeNoZero"], apart := false, narrowed := true }
def FnExactJoinUptoSaid : Prop := fnExactJoinUptoRow.holds Try.pinned (OpenSpec.upto fnExactJoinSpec)

/-- 'laws.FnExactVarsOf', WHERE WHAT IT READS IS OF BULK AT MOST 1048576: true; the input reads as it did. -/
def fnExactVarsOfUptoRow : OpenClaim := { program := "ytlooiifgbiedeaa", sum := "587c570ae273d2c7e90c40af4a9ad35f7b7c9b17d90e14ebda46f3d6e8c49b64", func := "loop.example/g00584/laws.FnExactVarsOf", spec := "fnExactVarsOf", unfollowed := true, recurses := true, loops := true, apart := false, narrowed := true }
def FnExactVarsOfUptoSaid : Prop := fnExactVarsOfUptoRow.holds Try.pinned (OpenSpec.upto fnExactVarsOfSpec)

/-- 'laws.FnExactIsInstance', WHERE WHAT IT READS IS OF BULK AT MOST 1048576: true; the input reads as it did. -/
def fnExactIsInstanceUptoRow : OpenClaim := { program := "ytlooiifgbiedeaa", sum := "587c570ae273d2c7e90c40af4a9ad35f7b7c9b17d90e14ebda46f3d6e8c49b64", func := "loop.example/g00584/laws.FnExactIsInstance", spec := "fnExactIsInstance", unfollowed := true, recurses := true, loops := true, apart := false, narrowed := true }
def FnExactIsInstanceUptoSaid : Prop := fnExactIsInstanceUptoRow.holds Try.pinned (OpenSpec.upto fnExactIsInstanceSpec)

/-- 'laws.FnExactIsGeneral', WHERE WHAT IT READS IS OF BULK AT MOST 1048576: true; the input reads as it did. -/
def fnExactIsGeneralUptoRow : OpenClaim := { program := "ytlooiifgbiedeaa", sum := "587c570ae273d2c7e90c40af4a9ad35f7b7c9b17d90e14ebda46f3d6e8c49b64", func := "loop.example/g00584/laws.FnExactIsGeneral", spec := "fnExactIsGeneral", unfollowed := true, recurses := true, loops := true, apart := false, narrowed := true }
def FnExactIsGeneralUptoSaid : Prop := fnExactIsGeneralUptoRow.holds Try.pinned (OpenSpec.upto fnExactIsGeneralSpec)

/-- 'laws.FnExactFindBinding', WHERE WHAT IT READS IS OF BULK AT MOST 1048576: true; the input reads as it did. -/
def fnExactFindBindingUptoRow : OpenClaim := { program := "ytlooiifgbiedeaa", sum := "587c570ae273d2c7e90c40af4a9ad35f7b7c9b17d90e14ebda46f3d6e8c49b64", func := "loop.example/g00584/laws.FnExactFindBinding", spec := "fnExactFindBinding", recurses := true, loops := true, apart := false, narrowed := true }
def FnExactFindBindingUptoSaid : Prop := fnExactFindBindingUptoRow.holds Try.pinned (OpenSpec.upto fnExactFindBindingSpec)

/-- 'laws.FnExactCouples', WHERE WHAT IT READS IS OF BULK AT MOST 1048576: true; the input reads as it did. -/
def fnExactCouplesUptoRow : OpenClaim := { program := "ytlooiifgbiedeaa", sum := "587c570ae273d2c7e90c40af4a9ad35f7b7c9b17d90e14ebda46f3d6e8c49b64", func := "loop.example/g00584/laws.FnExactCouples", spec := "fnExactCouples", recurses := true, loops := true, apart := false, narrowed := true }
def FnExactCouplesUptoSaid : Prop := fnExactCouplesUptoRow.holds Try.pinned (OpenSpec.upto fnExactCouplesSpec)

/-- 'laws.FnExactEmbeds', WHERE WHAT IT READS IS OF BULK AT MOST 1048576: true; the input reads as it did. -/
def fnExactEmbedsUptoRow : OpenClaim := { program := "ytlooiifgbiedeaa", sum := "587c570ae273d2c7e90c40af4a9ad35f7b7c9b17d90e14ebda46f3d6e8c49b64", func := "loop.example/g00584/laws.FnExactEmbeds", spec := "fnExactEmbeds", recurses := true, loops := true, apart := false, narrowed := true }
def FnExactEmbedsUptoSaid : Prop := fnExactEmbedsUptoRow.holds Try.pinned (OpenSpec.upto fnExactEmbedsSpec)

/-- 'laws.FnExactFirstEmbedded', WHERE WHAT IT READS IS OF BULK AT MOST 1048576: true; the input reads as it did. -/
def fnExactFirstEmbeddedUptoRow : OpenClaim := { program := "ytlooiifgbiedeaa", sum := "587c570ae273d2c7e90c40af4a9ad35f7b7c9b17d90e14ebda46f3d6e8c49b64", func := "loop.example/g00584/laws.FnExactFirstEmbedded", spec := "fnExactFirstEmbedded", recurses := true, loops := true, apart := false, narrowed := true }
def FnExactFirstEmbeddedUptoSaid : Prop := fnExactFirstEmbeddedUptoRow.holds Try.pinned (OpenSpec.upto fnExactFirstEmbeddedSpec)

/-- 'laws.FnExactIsExprFor', WHERE WHAT IT READS IS OF BULK AT MOST 1048576: true; the input reads as it did. -/
def fnExactIsExprForUptoRow : OpenClaim := { program := "ytlooiifgbiedeaa", sum := "587c570ae273d2c7e90c40af4a9ad35f7b7c9b17d90e14ebda46f3d6e8c49b64", func := "loop.example/g00584/laws.FnExactIsExprFor", spec := "fnExactIsExprFor", unfollowed := true, recurses := true, loops := true, apart := false, narrowed := true }
def FnExactIsExprForUptoSaid : Prop := fnExactIsExprForUptoRow.holds Try.pinned (OpenSpec.upto fnExactIsExprForSpec)

end Rows
end Go.Proofs.Ytlooiifgbiedeaa
