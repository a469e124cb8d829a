/-
  DERIVED. GIVEN WITH THE SEED: THE CARDS: each row of YtldfehmaophfjaaDoorRows.lean that lists a variable, with what it lists TIED to the program's text (the seventh form; the later family's looks); each row that meets fmt, with fmt's text TOLD by the authors' own Lean function (tested against real Go, not proved from fmt's source: count such statements apart). THE CARD IS WHAT COUNTS. Prove the row's statement (the work); the ties are given (YtldfehmaophfjaaDoorTie.lean); close each card by the builder's one call (the guide's Derived/Test/ToyasCard.lean, 'card_holds'). Laid BY PROGRAM, IN A SANDBOX (cutbox-door.mjs). By AI agents, Wed Nov 11 2026. No macro, syntax, notation, axiom, sorry.
-/
import Derived.Test.YtldfehmaophfjaaDoorRows
import GoSem.ClaimSeven
namespace Go.Proofs.YtldfehmaophfjaaDoor
namespace Rows

/-- THE TIED CARD OF 'laws.FnExactFrameText'. -/
def fnExactFrameTextCard : Claim7 := { stood := { row := fnExactFrameTextRow, standIns := [], harness := (true, "fa5b28a68494b217eec442d1dbfc3ca830ff8ec13be7255b149b66e87c77963f"), looks := false }, kinds := [], alts := [], laidByText := true, laidKinds := [.data, .data, .data], laidTests := true, laidLooks := .later }
def FnExactFrameTextCardSaid : Prop := Claim7.holds Tryd.pinned (.plain (OpenSpec.ofChange fnExactFrameTextSpec)) fnExactFrameTextCard

/-- THE TIED CARD OF 'laws.FnNumbers'. -/
def fnNumbersCard : Claim7 := { stood := { row := fnNumbersRow, standIns := [], harness := (true, "fa5b28a68494b217eec442d1dbfc3ca830ff8ec13be7255b149b66e87c77963f"), looks := false }, kinds := [], alts := [], laidByText := true, laidKinds := [.data, .data, .data], laidTests := true, laidLooks := .later }
def FnNumbersCardSaid : Prop := Claim7.holds Tryd.pinned (.plain (OpenSpec.ofChange fnNumbersSpec)) fnNumbersCard

/-- THE TIED CARD OF 'laws.FnExactConfText'. -/
def fnExactConfTextCard : Claim7 := { stood := { row := fnExactConfTextRow, standIns := [], harness := (true, "fa5b28a68494b217eec442d1dbfc3ca830ff8ec13be7255b149b66e87c77963f"), looks := false }, kinds := [], alts := [], laidByText := true, laidKinds := [.data, .data, .data], laidTests := true, laidLooks := .later }
def FnExactConfTextCardSaid : Prop := Claim7.holds Tryd.pinned (.plain (OpenSpec.ofChange fnExactConfTextSpec)) fnExactConfTextCard

/-- THE TIED CARD OF 'laws.FnExactRecOk'. -/
def fnExactRecOkCard : Claim7 := { stood := { row := fnExactRecOkRow, standIns := [], harness := (true, "fa5b28a68494b217eec442d1dbfc3ca830ff8ec13be7255b149b66e87c77963f"), looks := false }, kinds := [], alts := [], laidByText := true, laidKinds := [.data, .data, .data, .data, .pinned], laidTests := true, laidLooks := .later }
def FnExactRecOkCardSaid : Prop := Claim7.holds Tryd.pinned (.plain (OpenSpec.ofChange fnExactRecOkSpec)) fnExactRecOkCard

/-- THE TIED CARD OF 'laws.FnExactKnownOk'. -/
def fnExactKnownOkCard : Claim7 := { stood := { row := fnExactKnownOkRow, standIns := [], harness := (true, "fa5b28a68494b217eec442d1dbfc3ca830ff8ec13be7255b149b66e87c77963f"), looks := false }, kinds := [], alts := [], laidByText := true, laidKinds := [.data, .data, .data, .data, .pinned], laidTests := true, laidLooks := .later }
def FnExactKnownOkCardSaid : Prop := Claim7.holds Tryd.pinned (.plain (OpenSpec.ofChange fnExactKnownOkSpec)) fnExactKnownOkCard

/-- THE SECOND FORM's CARD OF 'laws.FnExactFrameText'. -/
def fnExactFrameTextUptoCard : Claim7 := { stood := { row := fnExactFrameTextUptoRow, standIns := [], harness := (true, "fa5b28a68494b217eec442d1dbfc3ca830ff8ec13be7255b149b66e87c77963f"), looks := false }, kinds := [], alts := [], laidByText := true, laidKinds := [.data, .data, .data], laidTests := true, laidLooks := .later }
def FnExactFrameTextUptoCardSaid : Prop := Claim7.holds Tryd.pinned (.plain (OpenSpec.upto fnExactFrameTextSpec)) fnExactFrameTextUptoCard

/-- THE SECOND FORM's CARD OF 'laws.FnNumbers'. -/
def fnNumbersUptoCard : Claim7 := { stood := { row := fnNumbersUptoRow, standIns := [], harness := (true, "fa5b28a68494b217eec442d1dbfc3ca830ff8ec13be7255b149b66e87c77963f"), looks := false }, kinds := [], alts := [], laidByText := true, laidKinds := [.data, .data, .data], laidTests := true, laidLooks := .later }
def FnNumbersUptoCardSaid : Prop := Claim7.holds Tryd.pinned (.plain (OpenSpec.upto fnNumbersSpec)) fnNumbersUptoCard

/-- THE SECOND FORM's CARD OF 'laws.FnExactConfText'. -/
def fnExactConfTextUptoCard : Claim7 := { stood := { row := fnExactConfTextUptoRow, standIns := [], harness := (true, "fa5b28a68494b217eec442d1dbfc3ca830ff8ec13be7255b149b66e87c77963f"), looks := false }, kinds := [], alts := [], laidByText := true, laidKinds := [.data, .data, .data], laidTests := true, laidLooks := .later }
def FnExactConfTextUptoCardSaid : Prop := Claim7.holds Tryd.pinned (.plain (OpenSpec.upto fnExactConfTextSpec)) fnExactConfTextUptoCard

/-- THE SECOND FORM's CARD OF 'laws.FnExactRecOk'. -/
def fnExactRecOkUptoCard : Claim7 := { stood := { row := fnExactRecOkUptoRow, standIns := [], harness := (true, "fa5b28a68494b217eec442d1dbfc3ca830ff8ec13be7255b149b66e87c77963f"), looks := false }, kinds := [], alts := [], laidByText := true, laidKinds := [.data, .data, .data, .data, .pinned], laidTests := true, laidLooks := .later }
def FnExactRecOkUptoCardSaid : Prop := Claim7.holds Tryd.pinned (.plain (OpenSpec.upto fnExactRecOkSpec)) fnExactRecOkUptoCard

/-- THE SECOND FORM's CARD OF 'laws.FnExactKnownOk'. -/
def fnExactKnownOkUptoCard : Claim7 := { stood := { row := fnExactKnownOkUptoRow, standIns := [], harness := (true, "fa5b28a68494b217eec442d1dbfc3ca830ff8ec13be7255b149b66e87c77963f"), looks := false }, kinds := [], alts := [], laidByText := true, laidKinds := [.data, .data, .data, .data, .pinned], laidTests := true, laidLooks := .later }
def FnExactKnownOkUptoCardSaid : Prop := Claim7.holds Tryd.pinned (.plain (OpenSpec.upto fnExactKnownOkSpec)) fnExactKnownOkUptoCard
end Rows
end Go.Proofs.YtldfehmaophfjaaDoor
