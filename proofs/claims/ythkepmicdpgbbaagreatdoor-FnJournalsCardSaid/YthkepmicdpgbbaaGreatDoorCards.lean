/-
  DERIVED. GIVEN WITH THE SEED: THE CARDS: each row of YthkepmicdpgbbaaGreatDoorRows.lean that lists a variable, with what it lists TIED to the program's text (the seventh form; the later family's looks); each row that meets fmt, with fmt's text TOLD by the authors' own Lean function (tested against real Go, not proved from fmt's source: count such statements apart). THE CARD IS WHAT COUNTS. Prove the row's statement (the work); the ties are given (YthkepmicdpgbbaaGreatDoorTie.lean); close each card by the builder's one call (the guide's Derived/Test/ToyasCard.lean, 'card_holds'). Laid BY PROGRAM, IN A SANDBOX (cutbox-door.mjs). By AI agents, Wed Nov 11 2026. No macro, syntax, notation, axiom, sorry.
-/
import Derived.Test.YthkepmicdpgbbaaGreatDoorRows
import GoSem.ClaimSeven
namespace Go.Proofs.YthkepmicdpgbbaaGreatDoor
namespace Rows

/-- THE TIED CARD OF 'laws.FnRecs'. -/
def fnRecsCard : Claim7 := { stood := { row := fnRecsRow, standIns := [], harness := (true, "a0b08ec5bca06275ea6e51147ab65c76ea4c60e324e187ea80e5266fafab190f"), looks := false }, kinds := [], alts := [], laidByText := true, laidKinds := [.data, .data, .data, .data, .pinned], laidTests := true, laidLooks := .later }
def FnRecsCardSaid : Prop := Claim7.holds Tryz.pinned (.plain (OpenSpec.ofChange fnRecsSpec)) fnRecsCard

/-- THE TIED CARD OF 'laws.FnExactReplay'. -/
def fnExactReplayCard : Claim7 := { stood := { row := fnExactReplayRow, standIns := [], harness := (true, "a0b08ec5bca06275ea6e51147ab65c76ea4c60e324e187ea80e5266fafab190f"), looks := false }, kinds := [], alts := [], laidByText := true, laidKinds := [.data, .data, .data, .data, .pinned], laidTests := true, laidLooks := .later }
def FnExactReplayCardSaid : Prop := Claim7.holds Tryz.pinned (.plain (OpenSpec.ofChange fnExactReplaySpec)) fnExactReplayCard

/-- THE TIED CARD OF 'laws.FnExactOpenJour'. -/
def fnExactOpenJourCard : Claim7 := { stood := { row := fnExactOpenJourRow, standIns := [], harness := (true, "a0b08ec5bca06275ea6e51147ab65c76ea4c60e324e187ea80e5266fafab190f"), looks := false }, kinds := [], alts := [], laidByText := true, laidKinds := [.data, .data, .data, .data, .pinned], laidTests := true, laidLooks := .later }
def FnExactOpenJourCardSaid : Prop := Claim7.holds Tryz.pinned (.plain (OpenSpec.ofChange fnExactOpenJourSpec)) fnExactOpenJourCard

/-- THE TIED CARD OF 'laws.FnCrash'. -/
def fnCrashCard : Claim7 := { stood := { row := fnCrashRow, standIns := [], harness := (true, "a0b08ec5bca06275ea6e51147ab65c76ea4c60e324e187ea80e5266fafab190f"), looks := false }, kinds := [], alts := [], laidByText := true, laidKinds := [.data, .data, .data, .data, .pinned], laidTests := true, laidLooks := .later }
def FnCrashCardSaid : Prop := Claim7.holds Tryz.pinned (.plain (OpenSpec.ofChange fnCrashSpec)) fnCrashCard

/-- THE TIED CARD OF 'laws.FnExactAddRec'. -/
def fnExactAddRecCard : Claim7 := { stood := { row := fnExactAddRecRow, standIns := [], harness := (true, "a0b08ec5bca06275ea6e51147ab65c76ea4c60e324e187ea80e5266fafab190f"), looks := false }, kinds := [], alts := [], laidByText := true, laidKinds := [.data, .data, .data, .data, .pinned], laidTests := true, laidLooks := .later }
def FnExactAddRecCardSaid : Prop := Claim7.holds Tryz.pinned (.plain (OpenSpec.ofChange fnExactAddRecSpec)) fnExactAddRecCard

/-- THE TIED CARD OF 'laws.FnJournals'. -/
def fnJournalsCard : Claim7 := { stood := { row := fnJournalsRow, standIns := [], harness := (true, "a0b08ec5bca06275ea6e51147ab65c76ea4c60e324e187ea80e5266fafab190f"), looks := false }, kinds := [], alts := [], laidByText := true, laidKinds := [.data, .data, .data, .data, .pinned], laidTests := true, laidLooks := .later }
def FnJournalsCardSaid : Prop := Claim7.holds Tryz.pinned (.plain (OpenSpec.ofChange fnJournalsSpec)) fnJournalsCard

/-- THE SECOND FORM's CARD OF 'laws.FnRecs'. -/
def fnRecsUptoCard : Claim7 := { stood := { row := fnRecsUptoRow, standIns := [], harness := (true, "a0b08ec5bca06275ea6e51147ab65c76ea4c60e324e187ea80e5266fafab190f"), looks := false }, kinds := [], alts := [], laidByText := true, laidKinds := [.data, .data, .data, .data, .pinned], laidTests := true, laidLooks := .later }
def FnRecsUptoCardSaid : Prop := Claim7.holds Tryz.pinned (.plain (OpenSpec.upto fnRecsSpec)) fnRecsUptoCard

/-- THE SECOND FORM's CARD OF 'laws.FnExactReplay'. -/
def fnExactReplayUptoCard : Claim7 := { stood := { row := fnExactReplayUptoRow, standIns := [], harness := (true, "a0b08ec5bca06275ea6e51147ab65c76ea4c60e324e187ea80e5266fafab190f"), looks := false }, kinds := [], alts := [], laidByText := true, laidKinds := [.data, .data, .data, .data, .pinned], laidTests := true, laidLooks := .later }
def FnExactReplayUptoCardSaid : Prop := Claim7.holds Tryz.pinned (.plain (OpenSpec.upto fnExactReplaySpec)) fnExactReplayUptoCard

/-- THE SECOND FORM's CARD OF 'laws.FnExactOpenJour'. -/
def fnExactOpenJourUptoCard : Claim7 := { stood := { row := fnExactOpenJourUptoRow, standIns := [], harness := (true, "a0b08ec5bca06275ea6e51147ab65c76ea4c60e324e187ea80e5266fafab190f"), looks := false }, kinds := [], alts := [], laidByText := true, laidKinds := [.data, .data, .data, .data, .pinned], laidTests := true, laidLooks := .later }
def FnExactOpenJourUptoCardSaid : Prop := Claim7.holds Tryz.pinned (.plain (OpenSpec.upto fnExactOpenJourSpec)) fnExactOpenJourUptoCard

/-- THE SECOND FORM's CARD OF 'laws.FnCrash'. -/
def fnCrashUptoCard : Claim7 := { stood := { row := fnCrashUptoRow, standIns := [], harness := (true, "a0b08ec5bca06275ea6e51147ab65c76ea4c60e324e187ea80e5266fafab190f"), looks := false }, kinds := [], alts := [], laidByText := true, laidKinds := [.data, .data, .data, .data, .pinned], laidTests := true, laidLooks := .later }
def FnCrashUptoCardSaid : Prop := Claim7.holds Tryz.pinned (.plain (OpenSpec.upto fnCrashSpec)) fnCrashUptoCard

/-- THE SECOND FORM's CARD OF 'laws.FnExactAddRec'. -/
def fnExactAddRecUptoCard : Claim7 := { stood := { row := fnExactAddRecUptoRow, standIns := [], harness := (true, "a0b08ec5bca06275ea6e51147ab65c76ea4c60e324e187ea80e5266fafab190f"), looks := false }, kinds := [], alts := [], laidByText := true, laidKinds := [.data, .data, .data, .data, .pinned], laidTests := true, laidLooks := .later }
def FnExactAddRecUptoCardSaid : Prop := Claim7.holds Tryz.pinned (.plain (OpenSpec.upto fnExactAddRecSpec)) fnExactAddRecUptoCard

/-- THE SECOND FORM's CARD OF 'laws.FnJournals'. -/
def fnJournalsUptoCard : Claim7 := { stood := { row := fnJournalsUptoRow, standIns := [], harness := (true, "a0b08ec5bca06275ea6e51147ab65c76ea4c60e324e187ea80e5266fafab190f"), looks := false }, kinds := [], alts := [], laidByText := true, laidKinds := [.data, .data, .data, .data, .pinned], laidTests := true, laidLooks := .later }
def FnJournalsUptoCardSaid : Prop := Claim7.holds Tryz.pinned (.plain (OpenSpec.upto fnJournalsSpec)) fnJournalsUptoCard
end Rows
end Go.Proofs.YthkepmicdpgbbaaGreatDoor
