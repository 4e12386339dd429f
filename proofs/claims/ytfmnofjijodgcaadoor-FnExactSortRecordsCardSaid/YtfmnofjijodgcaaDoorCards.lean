/-
  DERIVED. GIVEN WITH THE SEED: THE CARDS: each row of YtfmnofjijodgcaaDoorRows.lean that lists a variable, with what it lists TIED to the program's text (the seventh form; the later family's looks); each row that meets fmt, with fmt's text TOLD by the authors' own Lean function (tested against real Go, not proved from fmt's source: count such statements apart). THE CARD IS WHAT COUNTS. Prove the row's statement (the work); the ties are given (YtfmnofjijodgcaaDoorTie.lean); close each card by the builder's one call (the guide's Derived/Test/ToyasCard.lean, 'card_holds'). Laid BY PROGRAM, IN A SANDBOX (cutbox-door.mjs). By AI agents, Wed Nov 11 2026. No macro, syntax, notation, axiom, sorry.
-/
import Derived.Test.YtfmnofjijodgcaaDoorRows
import GoSem.ClaimSeven
namespace Go.Proofs.YtfmnofjijodgcaaDoor
namespace Rows

/-- THE TIED CARD OF 'laws.FnExactGetName'. -/
def fnExactGetNameCard : Claim7 := { stood := { row := fnExactGetNameRow, standIns := [], harness := (true, "776a1b426c5b3c7dac4a1ed616c69d687f90430005a62e2fe3a7c0019c342b50"), looks := false }, kinds := [], alts := [], laidByText := true, laidKinds := [.data, .pinned], laidTests := true, laidLooks := .later }
def FnExactGetNameCardSaid : Prop := Claim7.holds Tryd.pinned (.plain (OpenSpec.ofChange fnExactGetNameSpec)) fnExactGetNameCard

/-- THE TIED CARD OF 'laws.FnExactJumpsIn'. -/
def fnExactJumpsInCard : Claim7 := { stood := { row := fnExactJumpsInRow, standIns := [], harness := (true, "776a1b426c5b3c7dac4a1ed616c69d687f90430005a62e2fe3a7c0019c342b50"), looks := false }, kinds := [], alts := [], laidByText := true, laidKinds := [.data, .pinned], laidTests := true, laidLooks := .later }
def FnExactJumpsInCardSaid : Prop := Claim7.holds Tryd.pinned (.plain (OpenSpec.ofChange fnExactJumpsInSpec)) fnExactJumpsInCard

/-- THE TIED CARD OF 'laws.FnExactRecordText'. -/
def fnExactRecordTextCard : Claim7 := { stood := { row := fnExactRecordTextRow, standIns := [], harness := (true, "776a1b426c5b3c7dac4a1ed616c69d687f90430005a62e2fe3a7c0019c342b50"), looks := false }, kinds := [], alts := [], laidByText := true, laidKinds := [.data, .pinned], laidTests := true, laidLooks := .later }
def FnExactRecordTextCardSaid : Prop := Claim7.holds Tryd.pinned (.plain (OpenSpec.ofChange fnExactRecordTextSpec)) fnExactRecordTextCard

/-- THE TIED CARD OF 'laws.FnExactPlaceOf'. -/
def fnExactPlaceOfCard : Claim7 := { stood := { row := fnExactPlaceOfRow, standIns := [], harness := (true, "776a1b426c5b3c7dac4a1ed616c69d687f90430005a62e2fe3a7c0019c342b50"), looks := false }, kinds := [], alts := [], laidByText := true, laidKinds := [.data, .pinned], laidTests := true, laidLooks := .later }
def FnExactPlaceOfCardSaid : Prop := Claim7.holds Tryd.pinned (.plain (OpenSpec.ofChange fnExactPlaceOfSpec)) fnExactPlaceOfCard

/-- THE TIED CARD OF 'laws.FnExactMsgOk'. -/
def fnExactMsgOkCard : Claim7 := { stood := { row := fnExactMsgOkRow, standIns := [], harness := (true, "776a1b426c5b3c7dac4a1ed616c69d687f90430005a62e2fe3a7c0019c342b50"), looks := false }, kinds := [], alts := [], laidByText := true, laidKinds := [.data, .pinned], laidTests := true, laidLooks := .later }
def FnExactMsgOkCardSaid : Prop := Claim7.holds Tryd.pinned (.plain (OpenSpec.ofChange fnExactMsgOkSpec)) fnExactMsgOkCard

/-- THE TIED CARD OF 'laws.FnExactSortRecords'. -/
def fnExactSortRecordsCard : Claim7 := { stood := { row := fnExactSortRecordsRow, standIns := [], harness := (true, "776a1b426c5b3c7dac4a1ed616c69d687f90430005a62e2fe3a7c0019c342b50"), looks := false }, kinds := [], alts := [], laidByText := true, laidKinds := [.data, .pinned], laidTests := true, laidLooks := .later }
def FnExactSortRecordsCardSaid : Prop := Claim7.holds Tryd.pinned (.plain (OpenSpec.ofChange fnExactSortRecordsSpec)) fnExactSortRecordsCard

/-- THE TIED CARD OF 'laws.FnExactPutName'. -/
def fnExactPutNameCard : Claim7 := { stood := { row := fnExactPutNameRow, standIns := [], harness := (true, "776a1b426c5b3c7dac4a1ed616c69d687f90430005a62e2fe3a7c0019c342b50"), looks := false }, kinds := [], alts := [], laidByText := true, laidKinds := [.data, .pinned], laidTests := true, laidLooks := .later }
def FnExactPutNameCardSaid : Prop := Claim7.holds Tryd.pinned (.plain (OpenSpec.ofChange fnExactPutNameSpec)) fnExactPutNameCard

/-- THE TIED CARD OF 'laws.FnExactGetData'. -/
def fnExactGetDataCard : Claim7 := { stood := { row := fnExactGetDataRow, standIns := [], harness := (true, "776a1b426c5b3c7dac4a1ed616c69d687f90430005a62e2fe3a7c0019c342b50"), looks := false }, kinds := [], alts := [], laidByText := true, laidKinds := [.data, .pinned], laidTests := true, laidLooks := .later }
def FnExactGetDataCardSaid : Prop := Claim7.holds Tryd.pinned (.plain (OpenSpec.ofChange fnExactGetDataSpec)) fnExactGetDataCard

/-- THE TIED CARD OF 'laws.FnExactMsgText'. -/
def fnExactMsgTextCard : Claim7 := { stood := { row := fnExactMsgTextRow, standIns := [], harness := (true, "776a1b426c5b3c7dac4a1ed616c69d687f90430005a62e2fe3a7c0019c342b50"), looks := false }, kinds := [], alts := [], laidByText := true, laidKinds := [.data, .pinned], laidTests := true, laidLooks := .later }
def FnExactMsgTextCardSaid : Prop := Claim7.holds Tryd.pinned (.plain (OpenSpec.ofChange fnExactMsgTextSpec)) fnExactMsgTextCard

/-- THE TIED CARD OF 'laws.FnExactGetRecord'. -/
def fnExactGetRecordCard : Claim7 := { stood := { row := fnExactGetRecordRow, standIns := [], harness := (true, "776a1b426c5b3c7dac4a1ed616c69d687f90430005a62e2fe3a7c0019c342b50"), looks := false }, kinds := [], alts := [], laidByText := true, laidKinds := [.data, .pinned], laidTests := true, laidLooks := .later }
def FnExactGetRecordCardSaid : Prop := Claim7.holds Tryd.pinned (.plain (OpenSpec.ofChange fnExactGetRecordSpec)) fnExactGetRecordCard

/-- THE TIED CARD OF 'laws.FnExactPutRecord'. -/
def fnExactPutRecordCard : Claim7 := { stood := { row := fnExactPutRecordRow, standIns := [], harness := (true, "776a1b426c5b3c7dac4a1ed616c69d687f90430005a62e2fe3a7c0019c342b50"), looks := false }, kinds := [], alts := [], laidByText := true, laidKinds := [.data, .pinned], laidTests := true, laidLooks := .later }
def FnExactPutRecordCardSaid : Prop := Claim7.holds Tryd.pinned (.plain (OpenSpec.ofChange fnExactPutRecordSpec)) fnExactPutRecordCard

/-- THE TIED CARD OF 'laws.FnExactGetRecords'. -/
def fnExactGetRecordsCard : Claim7 := { stood := { row := fnExactGetRecordsRow, standIns := [], harness := (true, "776a1b426c5b3c7dac4a1ed616c69d687f90430005a62e2fe3a7c0019c342b50"), looks := false }, kinds := [], alts := [], laidByText := true, laidKinds := [.data, .pinned], laidTests := true, laidLooks := .later }
def FnExactGetRecordsCardSaid : Prop := Claim7.holds Tryd.pinned (.plain (OpenSpec.ofChange fnExactGetRecordsSpec)) fnExactGetRecordsCard

/-- THE SECOND FORM's CARD OF 'laws.FnExactGetName'. -/
def fnExactGetNameUptoCard : Claim7 := { stood := { row := fnExactGetNameUptoRow, standIns := [], harness := (true, "776a1b426c5b3c7dac4a1ed616c69d687f90430005a62e2fe3a7c0019c342b50"), looks := false }, kinds := [], alts := [], laidByText := true, laidKinds := [.data, .pinned], laidTests := true, laidLooks := .later }
def FnExactGetNameUptoCardSaid : Prop := Claim7.holds Tryd.pinned (.plain (OpenSpec.upto fnExactGetNameSpec)) fnExactGetNameUptoCard

/-- THE SECOND FORM's CARD OF 'laws.FnExactJumpsIn'. -/
def fnExactJumpsInUptoCard : Claim7 := { stood := { row := fnExactJumpsInUptoRow, standIns := [], harness := (true, "776a1b426c5b3c7dac4a1ed616c69d687f90430005a62e2fe3a7c0019c342b50"), looks := false }, kinds := [], alts := [], laidByText := true, laidKinds := [.data, .pinned], laidTests := true, laidLooks := .later }
def FnExactJumpsInUptoCardSaid : Prop := Claim7.holds Tryd.pinned (.plain (OpenSpec.upto fnExactJumpsInSpec)) fnExactJumpsInUptoCard

/-- THE SECOND FORM's CARD OF 'laws.FnExactRecordText'. -/
def fnExactRecordTextUptoCard : Claim7 := { stood := { row := fnExactRecordTextUptoRow, standIns := [], harness := (true, "776a1b426c5b3c7dac4a1ed616c69d687f90430005a62e2fe3a7c0019c342b50"), looks := false }, kinds := [], alts := [], laidByText := true, laidKinds := [.data, .pinned], laidTests := true, laidLooks := .later }
def FnExactRecordTextUptoCardSaid : Prop := Claim7.holds Tryd.pinned (.plain (OpenSpec.upto fnExactRecordTextSpec)) fnExactRecordTextUptoCard

/-- THE SECOND FORM's CARD OF 'laws.FnExactPlaceOf'. -/
def fnExactPlaceOfUptoCard : Claim7 := { stood := { row := fnExactPlaceOfUptoRow, standIns := [], harness := (true, "776a1b426c5b3c7dac4a1ed616c69d687f90430005a62e2fe3a7c0019c342b50"), looks := false }, kinds := [], alts := [], laidByText := true, laidKinds := [.data, .pinned], laidTests := true, laidLooks := .later }
def FnExactPlaceOfUptoCardSaid : Prop := Claim7.holds Tryd.pinned (.plain (OpenSpec.upto fnExactPlaceOfSpec)) fnExactPlaceOfUptoCard

/-- THE SECOND FORM's CARD OF 'laws.FnExactMsgOk'. -/
def fnExactMsgOkUptoCard : Claim7 := { stood := { row := fnExactMsgOkUptoRow, standIns := [], harness := (true, "776a1b426c5b3c7dac4a1ed616c69d687f90430005a62e2fe3a7c0019c342b50"), looks := false }, kinds := [], alts := [], laidByText := true, laidKinds := [.data, .pinned], laidTests := true, laidLooks := .later }
def FnExactMsgOkUptoCardSaid : Prop := Claim7.holds Tryd.pinned (.plain (OpenSpec.upto fnExactMsgOkSpec)) fnExactMsgOkUptoCard

/-- THE SECOND FORM's CARD OF 'laws.FnExactSortRecords'. -/
def fnExactSortRecordsUptoCard : Claim7 := { stood := { row := fnExactSortRecordsUptoRow, standIns := [], harness := (true, "776a1b426c5b3c7dac4a1ed616c69d687f90430005a62e2fe3a7c0019c342b50"), looks := false }, kinds := [], alts := [], laidByText := true, laidKinds := [.data, .pinned], laidTests := true, laidLooks := .later }
def FnExactSortRecordsUptoCardSaid : Prop := Claim7.holds Tryd.pinned (.plain (OpenSpec.upto fnExactSortRecordsSpec)) fnExactSortRecordsUptoCard

/-- THE SECOND FORM's CARD OF 'laws.FnExactPutName'. -/
def fnExactPutNameUptoCard : Claim7 := { stood := { row := fnExactPutNameUptoRow, standIns := [], harness := (true, "776a1b426c5b3c7dac4a1ed616c69d687f90430005a62e2fe3a7c0019c342b50"), looks := false }, kinds := [], alts := [], laidByText := true, laidKinds := [.data, .pinned], laidTests := true, laidLooks := .later }
def FnExactPutNameUptoCardSaid : Prop := Claim7.holds Tryd.pinned (.plain (OpenSpec.upto fnExactPutNameSpec)) fnExactPutNameUptoCard

/-- THE SECOND FORM's CARD OF 'laws.FnExactGetData'. -/
def fnExactGetDataUptoCard : Claim7 := { stood := { row := fnExactGetDataUptoRow, standIns := [], harness := (true, "776a1b426c5b3c7dac4a1ed616c69d687f90430005a62e2fe3a7c0019c342b50"), looks := false }, kinds := [], alts := [], laidByText := true, laidKinds := [.data, .pinned], laidTests := true, laidLooks := .later }
def FnExactGetDataUptoCardSaid : Prop := Claim7.holds Tryd.pinned (.plain (OpenSpec.upto fnExactGetDataSpec)) fnExactGetDataUptoCard

/-- THE SECOND FORM's CARD OF 'laws.FnExactMsgText'. -/
def fnExactMsgTextUptoCard : Claim7 := { stood := { row := fnExactMsgTextUptoRow, standIns := [], harness := (true, "776a1b426c5b3c7dac4a1ed616c69d687f90430005a62e2fe3a7c0019c342b50"), looks := false }, kinds := [], alts := [], laidByText := true, laidKinds := [.data, .pinned], laidTests := true, laidLooks := .later }
def FnExactMsgTextUptoCardSaid : Prop := Claim7.holds Tryd.pinned (.plain (OpenSpec.upto fnExactMsgTextSpec)) fnExactMsgTextUptoCard

/-- THE SECOND FORM's CARD OF 'laws.FnExactGetRecord'. -/
def fnExactGetRecordUptoCard : Claim7 := { stood := { row := fnExactGetRecordUptoRow, standIns := [], harness := (true, "776a1b426c5b3c7dac4a1ed616c69d687f90430005a62e2fe3a7c0019c342b50"), looks := false }, kinds := [], alts := [], laidByText := true, laidKinds := [.data, .pinned], laidTests := true, laidLooks := .later }
def FnExactGetRecordUptoCardSaid : Prop := Claim7.holds Tryd.pinned (.plain (OpenSpec.upto fnExactGetRecordSpec)) fnExactGetRecordUptoCard

/-- THE SECOND FORM's CARD OF 'laws.FnExactPutRecord'. -/
def fnExactPutRecordUptoCard : Claim7 := { stood := { row := fnExactPutRecordUptoRow, standIns := [], harness := (true, "776a1b426c5b3c7dac4a1ed616c69d687f90430005a62e2fe3a7c0019c342b50"), looks := false }, kinds := [], alts := [], laidByText := true, laidKinds := [.data, .pinned], laidTests := true, laidLooks := .later }
def FnExactPutRecordUptoCardSaid : Prop := Claim7.holds Tryd.pinned (.plain (OpenSpec.upto fnExactPutRecordSpec)) fnExactPutRecordUptoCard

/-- THE SECOND FORM's CARD OF 'laws.FnExactGetRecords'. -/
def fnExactGetRecordsUptoCard : Claim7 := { stood := { row := fnExactGetRecordsUptoRow, standIns := [], harness := (true, "776a1b426c5b3c7dac4a1ed616c69d687f90430005a62e2fe3a7c0019c342b50"), looks := false }, kinds := [], alts := [], laidByText := true, laidKinds := [.data, .pinned], laidTests := true, laidLooks := .later }
def FnExactGetRecordsUptoCardSaid : Prop := Claim7.holds Tryd.pinned (.plain (OpenSpec.upto fnExactGetRecordsSpec)) fnExactGetRecordsUptoCard
end Rows
end Go.Proofs.YtfmnofjijodgcaaDoor
