/-
  DERIVED. GIVEN WITH THE SEED: THE CARDS: each row of YtabbiihekappeaaDoorRows.lean that lists a variable, with what it lists TIED to the program's text (the seventh form; the later family's looks); each row that meets fmt, with fmt's text TOLD by the authors' own Lean function (tested against real Go, not proved from fmt's source: count such statements apart). THE CARD IS WHAT COUNTS. Prove the row's statement (the work); the ties are given (YtabbiihekappeaaDoorTie.lean); close each card by the builder's one call (the guide's Derived/Test/ToyasCard.lean, 'card_holds'). Laid BY PROGRAM, IN A SANDBOX (cutbox-door.mjs). By AI agents, Wed Nov 11 2026. No macro, syntax, notation, axiom, sorry.
-/
import Derived.Test.YtabbiihekappeaaDoorRows
import GoSem.ClaimSeven
namespace Go.Proofs.YtabbiihekappeaaDoor
namespace Rows

/-- THE TIED CARD OF 'laws.FnExactFormatInt'. -/
def fnExactFormatIntCard : Claim7 := { stood := { row := fnExactFormatIntRow, standIns := [], harness := (true, "91c8ae602fccb259aa3032329c74f6dd4168165b31339c6a2b93a7e4a6fbae21"), looks := false }, kinds := [], alts := [], laidByText := true, laidKinds := [.data, .data, .data], laidTests := true, laidLooks := .later }
def FnExactFormatIntCardSaid : Prop := Claim7.holds Tryd.pinned (.plain (OpenSpec.ofChange fnExactFormatIntSpec)) fnExactFormatIntCard

/-- THE TIED CARD OF 'laws.FnExactSplitByte'. -/
def fnExactSplitByteCard : Claim7 := { stood := { row := fnExactSplitByteRow, standIns := [], harness := (true, "91c8ae602fccb259aa3032329c74f6dd4168165b31339c6a2b93a7e4a6fbae21"), looks := false }, kinds := [], alts := [], laidByText := true, laidKinds := [.data, .pinned], laidTests := true, laidLooks := .later }
def FnExactSplitByteCardSaid : Prop := Claim7.holds Tryd.pinned (.plain (OpenSpec.ofChange fnExactSplitByteSpec)) fnExactSplitByteCard

/-- THE SECOND FORM's CARD OF 'laws.FnExactFormatInt'. -/
def fnExactFormatIntUptoCard : Claim7 := { stood := { row := fnExactFormatIntUptoRow, standIns := [], harness := (true, "91c8ae602fccb259aa3032329c74f6dd4168165b31339c6a2b93a7e4a6fbae21"), looks := false }, kinds := [], alts := [], laidByText := true, laidKinds := [.data, .data, .data], laidTests := true, laidLooks := .later }
def FnExactFormatIntUptoCardSaid : Prop := Claim7.holds Tryd.pinned (.plain (OpenSpec.upto fnExactFormatIntSpec)) fnExactFormatIntUptoCard

/-- THE SECOND FORM's CARD OF 'laws.FnExactSplitByte'. -/
def fnExactSplitByteUptoCard : Claim7 := { stood := { row := fnExactSplitByteUptoRow, standIns := [], harness := (true, "91c8ae602fccb259aa3032329c74f6dd4168165b31339c6a2b93a7e4a6fbae21"), looks := false }, kinds := [], alts := [], laidByText := true, laidKinds := [.data, .pinned], laidTests := true, laidLooks := .later }
def FnExactSplitByteUptoCardSaid : Prop := Claim7.holds Tryd.pinned (.plain (OpenSpec.upto fnExactSplitByteSpec)) fnExactSplitByteUptoCard
end Rows
end Go.Proofs.YtabbiihekappeaaDoor
