/-
  DERIVED. GIVEN WITH THE SEED: THE CARDS: each row of YthkepmicdpgbbaaDoorRows.lean that lists a variable, with what it lists TIED to the program's text (the seventh form; the later family's looks); each row that meets fmt, with fmt's text TOLD by the authors' own Lean function (tested against real Go, not proved from fmt's source: count such statements apart). THE CARD IS WHAT COUNTS. Prove the row's statement (the work); the ties are given (YthkepmicdpgbbaaDoorTie.lean); close each card by the builder's one call (the guide's Derived/Test/ToyasCard.lean, 'card_holds'). Laid BY PROGRAM, IN A SANDBOX (cutbox-door.mjs). By AI agents, Wed Nov 11 2026. No macro, syntax, notation, axiom, sorry.
-/
import Derived.Test.YthkepmicdpgbbaaDoorRows
import GoSem.ClaimSeven
namespace Go.Proofs.YthkepmicdpgbbaaDoor
namespace Rows

/-- THE TIED CARD OF 'laws.FnExactParseConf'. -/
def fnExactParseConfCard : Claim7 := { stood := { row := fnExactParseConfRow, standIns := [], harness := (true, "2bf4e307c9a18cbf5060393fa9f3b2bac9b7f5cccf8076f37bed0e9f1a4a7918"), looks := false }, kinds := [], alts := [], laidByText := true, laidKinds := [.data, .data, .data, .data, .pinned], laidTests := true, laidLooks := .later }
def FnExactParseConfCardSaid : Prop := Claim7.holds Tryd.pinned (.plain (OpenSpec.ofChange fnExactParseConfSpec)) fnExactParseConfCard

/-- THE TIED CARD OF 'laws.FnExactApply'. -/
def fnExactApplyCard : Claim7 := { stood := { row := fnExactApplyRow, standIns := [], harness := (true, "2bf4e307c9a18cbf5060393fa9f3b2bac9b7f5cccf8076f37bed0e9f1a4a7918"), looks := false }, kinds := [], alts := [], laidByText := true, laidKinds := [.data, .data, .data, .data, .pinned], laidTests := true, laidLooks := .later }
def FnExactApplyCardSaid : Prop := Claim7.holds Tryd.pinned (.plain (OpenSpec.ofChange fnExactApplySpec)) fnExactApplyCard

/-- THE TIED CARD OF 'laws.FnExactPutRec'. -/
def fnExactPutRecCard : Claim7 := { stood := { row := fnExactPutRecRow, standIns := [], harness := (true, "2bf4e307c9a18cbf5060393fa9f3b2bac9b7f5cccf8076f37bed0e9f1a4a7918"), looks := false }, kinds := [], alts := [], laidByText := true, laidKinds := [.data, .data, .data, .data, .pinned], laidTests := true, laidLooks := .later }
def FnExactPutRecCardSaid : Prop := Claim7.holds Tryd.pinned (.plain (OpenSpec.ofChange fnExactPutRecSpec)) fnExactPutRecCard

/-- THE TIED CARD OF 'laws.FnConfs'. -/
def fnConfsCard : Claim7 := { stood := { row := fnConfsRow, standIns := [], harness := (true, "2bf4e307c9a18cbf5060393fa9f3b2bac9b7f5cccf8076f37bed0e9f1a4a7918"), looks := false }, kinds := [], alts := [], laidByText := true, laidKinds := [.data, .data, .data, .data, .pinned], laidTests := true, laidLooks := .later }
def FnConfsCardSaid : Prop := Claim7.holds Tryd.pinned (.plain (OpenSpec.ofChange fnConfsSpec)) fnConfsCard

/-- THE TIED CARD OF 'laws.FnExactGetRec'. -/
def fnExactGetRecCard : Claim7 := { stood := { row := fnExactGetRecRow, standIns := [], harness := (true, "2bf4e307c9a18cbf5060393fa9f3b2bac9b7f5cccf8076f37bed0e9f1a4a7918"), looks := false }, kinds := [], alts := [], laidByText := true, laidKinds := [.data, .data, .data, .data, .pinned], laidTests := true, laidLooks := .later }
def FnExactGetRecCardSaid : Prop := Claim7.holds Tryd.pinned (.plain (OpenSpec.ofChange fnExactGetRecSpec)) fnExactGetRecCard

/-- THE TIED CARD OF 'laws.FnKnown'. -/
def fnKnownCard : Claim7 := { stood := { row := fnKnownRow, standIns := [], harness := (true, "2bf4e307c9a18cbf5060393fa9f3b2bac9b7f5cccf8076f37bed0e9f1a4a7918"), looks := false }, kinds := [], alts := [], laidByText := true, laidKinds := [.data, .data, .data, .data, .pinned], laidTests := true, laidLooks := .later }
def FnKnownCardSaid : Prop := Claim7.holds Tryd.pinned (.plain (OpenSpec.ofChange fnKnownSpec)) fnKnownCard

/-- THE SECOND FORM's CARD OF 'laws.FnExactParseConf'. -/
def fnExactParseConfUptoCard : Claim7 := { stood := { row := fnExactParseConfUptoRow, standIns := [], harness := (true, "2bf4e307c9a18cbf5060393fa9f3b2bac9b7f5cccf8076f37bed0e9f1a4a7918"), looks := false }, kinds := [], alts := [], laidByText := true, laidKinds := [.data, .data, .data, .data, .pinned], laidTests := true, laidLooks := .later }
def FnExactParseConfUptoCardSaid : Prop := Claim7.holds Tryd.pinned (.plain (OpenSpec.upto fnExactParseConfSpec)) fnExactParseConfUptoCard

/-- THE SECOND FORM's CARD OF 'laws.FnExactApply'. -/
def fnExactApplyUptoCard : Claim7 := { stood := { row := fnExactApplyUptoRow, standIns := [], harness := (true, "2bf4e307c9a18cbf5060393fa9f3b2bac9b7f5cccf8076f37bed0e9f1a4a7918"), looks := false }, kinds := [], alts := [], laidByText := true, laidKinds := [.data, .data, .data, .data, .pinned], laidTests := true, laidLooks := .later }
def FnExactApplyUptoCardSaid : Prop := Claim7.holds Tryd.pinned (.plain (OpenSpec.upto fnExactApplySpec)) fnExactApplyUptoCard

/-- THE SECOND FORM's CARD OF 'laws.FnExactPutRec'. -/
def fnExactPutRecUptoCard : Claim7 := { stood := { row := fnExactPutRecUptoRow, standIns := [], harness := (true, "2bf4e307c9a18cbf5060393fa9f3b2bac9b7f5cccf8076f37bed0e9f1a4a7918"), looks := false }, kinds := [], alts := [], laidByText := true, laidKinds := [.data, .data, .data, .data, .pinned], laidTests := true, laidLooks := .later }
def FnExactPutRecUptoCardSaid : Prop := Claim7.holds Tryd.pinned (.plain (OpenSpec.upto fnExactPutRecSpec)) fnExactPutRecUptoCard

/-- THE SECOND FORM's CARD OF 'laws.FnConfs'. -/
def fnConfsUptoCard : Claim7 := { stood := { row := fnConfsUptoRow, standIns := [], harness := (true, "2bf4e307c9a18cbf5060393fa9f3b2bac9b7f5cccf8076f37bed0e9f1a4a7918"), looks := false }, kinds := [], alts := [], laidByText := true, laidKinds := [.data, .data, .data, .data, .pinned], laidTests := true, laidLooks := .later }
def FnConfsUptoCardSaid : Prop := Claim7.holds Tryd.pinned (.plain (OpenSpec.upto fnConfsSpec)) fnConfsUptoCard

/-- THE SECOND FORM's CARD OF 'laws.FnExactGetRec'. -/
def fnExactGetRecUptoCard : Claim7 := { stood := { row := fnExactGetRecUptoRow, standIns := [], harness := (true, "2bf4e307c9a18cbf5060393fa9f3b2bac9b7f5cccf8076f37bed0e9f1a4a7918"), looks := false }, kinds := [], alts := [], laidByText := true, laidKinds := [.data, .data, .data, .data, .pinned], laidTests := true, laidLooks := .later }
def FnExactGetRecUptoCardSaid : Prop := Claim7.holds Tryd.pinned (.plain (OpenSpec.upto fnExactGetRecSpec)) fnExactGetRecUptoCard

/-- THE SECOND FORM's CARD OF 'laws.FnKnown'. -/
def fnKnownUptoCard : Claim7 := { stood := { row := fnKnownUptoRow, standIns := [], harness := (true, "2bf4e307c9a18cbf5060393fa9f3b2bac9b7f5cccf8076f37bed0e9f1a4a7918"), looks := false }, kinds := [], alts := [], laidByText := true, laidKinds := [.data, .data, .data, .data, .pinned], laidTests := true, laidLooks := .later }
def FnKnownUptoCardSaid : Prop := Claim7.holds Tryd.pinned (.plain (OpenSpec.upto fnKnownSpec)) fnKnownUptoCard
end Rows
end Go.Proofs.YthkepmicdpgbbaaDoor
