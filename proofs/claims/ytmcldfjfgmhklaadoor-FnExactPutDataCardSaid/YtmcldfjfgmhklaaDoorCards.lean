/-
  DERIVED. GIVEN WITH THE SEED: THE CARDS: each row of YtmcldfjfgmhklaaDoorRows.lean that lists a variable, with what it lists TIED to the program's text (the seventh form; the later family's looks); each row that meets fmt, with fmt's text TOLD by the authors' own Lean function (tested against real Go, not proved from fmt's source: count such statements apart). THE CARD IS WHAT COUNTS. Prove the row's statement (the work); the ties are given (YtmcldfjfgmhklaaDoorTie.lean); close each card by the builder's one call (the guide's Derived/Test/ToyasCard.lean, 'card_holds'). Laid BY PROGRAM, IN A SANDBOX (cutbox-door.mjs). By AI agents, Wed Nov 11 2026. No macro, syntax, notation, axiom, sorry.
-/
import Derived.Test.YtmcldfjfgmhklaaDoorRows
import GoSem.ClaimSeven
namespace Go.Proofs.YtmcldfjfgmhklaaDoor
namespace Rows

/-- THE TIED CARD OF 'laws.FnExactLabels'. -/
def fnExactLabelsCard : Claim7 := { stood := { row := fnExactLabelsRow, standIns := [], harness := (true, "13ca1297415e3ca453a9135987ea4d20271cc92bd21730b1790f06502931a980"), looks := false }, kinds := [], alts := [], laidByText := true, laidKinds := [.data, .pinned], laidTests := true, laidLooks := .later }
def FnExactLabelsCardSaid : Prop := Claim7.holds Tryd.pinned (.plain (OpenSpec.ofChange fnExactLabelsSpec)) fnExactLabelsCard

/-- THE TIED CARD OF 'laws.FnExactNameOk'. -/
def fnExactNameOkCard : Claim7 := { stood := { row := fnExactNameOkRow, standIns := [], harness := (true, "13ca1297415e3ca453a9135987ea4d20271cc92bd21730b1790f06502931a980"), looks := false }, kinds := [], alts := [], laidByText := true, laidKinds := [.data, .pinned], laidTests := true, laidLooks := .later }
def FnExactNameOkCardSaid : Prop := Claim7.holds Tryd.pinned (.plain (OpenSpec.ofChange fnExactNameOkSpec)) fnExactNameOkCard

/-- THE TIED CARD OF 'laws.FnExactLessName'. -/
def fnExactLessNameCard : Claim7 := { stood := { row := fnExactLessNameRow, standIns := [], harness := (true, "13ca1297415e3ca453a9135987ea4d20271cc92bd21730b1790f06502931a980"), looks := false }, kinds := [], alts := [], laidByText := true, laidKinds := [.data, .pinned], laidTests := true, laidLooks := .later }
def FnExactLessNameCardSaid : Prop := Claim7.holds Tryd.pinned (.plain (OpenSpec.ofChange fnExactLessNameSpec)) fnExactLessNameCard

/-- THE TIED CARD OF 'laws.FnExactQuestOk'. -/
def fnExactQuestOkCard : Claim7 := { stood := { row := fnExactQuestOkRow, standIns := [], harness := (true, "13ca1297415e3ca453a9135987ea4d20271cc92bd21730b1790f06502931a980"), looks := false }, kinds := [], alts := [], laidByText := true, laidKinds := [.data, .pinned], laidTests := true, laidLooks := .later }
def FnExactQuestOkCardSaid : Prop := Claim7.holds Tryd.pinned (.plain (OpenSpec.ofChange fnExactQuestOkSpec)) fnExactQuestOkCard

/-- THE TIED CARD OF 'laws.FnExactUp'. -/
def fnExactUpCard : Claim7 := { stood := { row := fnExactUpRow, standIns := [], harness := (true, "13ca1297415e3ca453a9135987ea4d20271cc92bd21730b1790f06502931a980"), looks := false }, kinds := [], alts := [], laidByText := true, laidKinds := [.data, .pinned], laidTests := true, laidLooks := .later }
def FnExactUpCardSaid : Prop := Claim7.holds Tryd.pinned (.plain (OpenSpec.ofChange fnExactUpSpec)) fnExactUpCard

/-- THE TIED CARD OF 'laws.FnExactRecordOk'. -/
def fnExactRecordOkCard : Claim7 := { stood := { row := fnExactRecordOkRow, standIns := [], harness := (true, "13ca1297415e3ca453a9135987ea4d20271cc92bd21730b1790f06502931a980"), looks := false }, kinds := [], alts := [], laidByText := true, laidKinds := [.data, .pinned], laidTests := true, laidLooks := .later }
def FnExactRecordOkCardSaid : Prop := Claim7.holds Tryd.pinned (.plain (OpenSpec.ofChange fnExactRecordOkSpec)) fnExactRecordOkCard

/-- THE TIED CARD OF 'laws.FnExactLessRecord'. -/
def fnExactLessRecordCard : Claim7 := { stood := { row := fnExactLessRecordRow, standIns := [], harness := (true, "13ca1297415e3ca453a9135987ea4d20271cc92bd21730b1790f06502931a980"), looks := false }, kinds := [], alts := [], laidByText := true, laidKinds := [.data, .pinned], laidTests := true, laidLooks := .later }
def FnExactLessRecordCardSaid : Prop := Claim7.holds Tryd.pinned (.plain (OpenSpec.ofChange fnExactLessRecordSpec)) fnExactLessRecordCard

/-- THE TIED CARD OF 'laws.FnExactPutPlain'. -/
def fnExactPutPlainCard : Claim7 := { stood := { row := fnExactPutPlainRow, standIns := [], harness := (true, "13ca1297415e3ca453a9135987ea4d20271cc92bd21730b1790f06502931a980"), looks := false }, kinds := [], alts := [], laidByText := true, laidKinds := [.data, .pinned], laidTests := true, laidLooks := .later }
def FnExactPutPlainCardSaid : Prop := Claim7.holds Tryd.pinned (.plain (OpenSpec.ofChange fnExactPutPlainSpec)) fnExactPutPlainCard

/-- THE TIED CARD OF 'laws.FnExactAbove'. -/
def fnExactAboveCard : Claim7 := { stood := { row := fnExactAboveRow, standIns := [], harness := (true, "13ca1297415e3ca453a9135987ea4d20271cc92bd21730b1790f06502931a980"), looks := false }, kinds := [], alts := [], laidByText := true, laidKinds := [.data, .pinned], laidTests := true, laidLooks := .later }
def FnExactAboveCardSaid : Prop := Claim7.holds Tryd.pinned (.plain (OpenSpec.ofChange fnExactAboveSpec)) fnExactAboveCard

/-- THE TIED CARD OF 'laws.FnExactPutData'. -/
def fnExactPutDataCard : Claim7 := { stood := { row := fnExactPutDataRow, standIns := [], harness := (true, "13ca1297415e3ca453a9135987ea4d20271cc92bd21730b1790f06502931a980"), looks := false }, kinds := [], alts := [], laidByText := true, laidKinds := [.data, .pinned], laidTests := true, laidLooks := .later }
def FnExactPutDataCardSaid : Prop := Claim7.holds Tryd.pinned (.plain (OpenSpec.ofChange fnExactPutDataSpec)) fnExactPutDataCard

/-- THE SECOND FORM's CARD OF 'laws.FnExactLabels'. -/
def fnExactLabelsUptoCard : Claim7 := { stood := { row := fnExactLabelsUptoRow, standIns := [], harness := (true, "13ca1297415e3ca453a9135987ea4d20271cc92bd21730b1790f06502931a980"), looks := false }, kinds := [], alts := [], laidByText := true, laidKinds := [.data, .pinned], laidTests := true, laidLooks := .later }
def FnExactLabelsUptoCardSaid : Prop := Claim7.holds Tryd.pinned (.plain (OpenSpec.upto fnExactLabelsSpec)) fnExactLabelsUptoCard

/-- THE SECOND FORM's CARD OF 'laws.FnExactNameOk'. -/
def fnExactNameOkUptoCard : Claim7 := { stood := { row := fnExactNameOkUptoRow, standIns := [], harness := (true, "13ca1297415e3ca453a9135987ea4d20271cc92bd21730b1790f06502931a980"), looks := false }, kinds := [], alts := [], laidByText := true, laidKinds := [.data, .pinned], laidTests := true, laidLooks := .later }
def FnExactNameOkUptoCardSaid : Prop := Claim7.holds Tryd.pinned (.plain (OpenSpec.upto fnExactNameOkSpec)) fnExactNameOkUptoCard

/-- THE SECOND FORM's CARD OF 'laws.FnExactLessName'. -/
def fnExactLessNameUptoCard : Claim7 := { stood := { row := fnExactLessNameUptoRow, standIns := [], harness := (true, "13ca1297415e3ca453a9135987ea4d20271cc92bd21730b1790f06502931a980"), looks := false }, kinds := [], alts := [], laidByText := true, laidKinds := [.data, .pinned], laidTests := true, laidLooks := .later }
def FnExactLessNameUptoCardSaid : Prop := Claim7.holds Tryd.pinned (.plain (OpenSpec.upto fnExactLessNameSpec)) fnExactLessNameUptoCard

/-- THE SECOND FORM's CARD OF 'laws.FnExactQuestOk'. -/
def fnExactQuestOkUptoCard : Claim7 := { stood := { row := fnExactQuestOkUptoRow, standIns := [], harness := (true, "13ca1297415e3ca453a9135987ea4d20271cc92bd21730b1790f06502931a980"), looks := false }, kinds := [], alts := [], laidByText := true, laidKinds := [.data, .pinned], laidTests := true, laidLooks := .later }
def FnExactQuestOkUptoCardSaid : Prop := Claim7.holds Tryd.pinned (.plain (OpenSpec.upto fnExactQuestOkSpec)) fnExactQuestOkUptoCard

/-- THE SECOND FORM's CARD OF 'laws.FnExactUp'. -/
def fnExactUpUptoCard : Claim7 := { stood := { row := fnExactUpUptoRow, standIns := [], harness := (true, "13ca1297415e3ca453a9135987ea4d20271cc92bd21730b1790f06502931a980"), looks := false }, kinds := [], alts := [], laidByText := true, laidKinds := [.data, .pinned], laidTests := true, laidLooks := .later }
def FnExactUpUptoCardSaid : Prop := Claim7.holds Tryd.pinned (.plain (OpenSpec.upto fnExactUpSpec)) fnExactUpUptoCard

/-- THE SECOND FORM's CARD OF 'laws.FnExactRecordOk'. -/
def fnExactRecordOkUptoCard : Claim7 := { stood := { row := fnExactRecordOkUptoRow, standIns := [], harness := (true, "13ca1297415e3ca453a9135987ea4d20271cc92bd21730b1790f06502931a980"), looks := false }, kinds := [], alts := [], laidByText := true, laidKinds := [.data, .pinned], laidTests := true, laidLooks := .later }
def FnExactRecordOkUptoCardSaid : Prop := Claim7.holds Tryd.pinned (.plain (OpenSpec.upto fnExactRecordOkSpec)) fnExactRecordOkUptoCard

/-- THE SECOND FORM's CARD OF 'laws.FnExactLessRecord'. -/
def fnExactLessRecordUptoCard : Claim7 := { stood := { row := fnExactLessRecordUptoRow, standIns := [], harness := (true, "13ca1297415e3ca453a9135987ea4d20271cc92bd21730b1790f06502931a980"), looks := false }, kinds := [], alts := [], laidByText := true, laidKinds := [.data, .pinned], laidTests := true, laidLooks := .later }
def FnExactLessRecordUptoCardSaid : Prop := Claim7.holds Tryd.pinned (.plain (OpenSpec.upto fnExactLessRecordSpec)) fnExactLessRecordUptoCard

/-- THE SECOND FORM's CARD OF 'laws.FnExactPutPlain'. -/
def fnExactPutPlainUptoCard : Claim7 := { stood := { row := fnExactPutPlainUptoRow, standIns := [], harness := (true, "13ca1297415e3ca453a9135987ea4d20271cc92bd21730b1790f06502931a980"), looks := false }, kinds := [], alts := [], laidByText := true, laidKinds := [.data, .pinned], laidTests := true, laidLooks := .later }
def FnExactPutPlainUptoCardSaid : Prop := Claim7.holds Tryd.pinned (.plain (OpenSpec.upto fnExactPutPlainSpec)) fnExactPutPlainUptoCard

/-- THE SECOND FORM's CARD OF 'laws.FnExactAbove'. -/
def fnExactAboveUptoCard : Claim7 := { stood := { row := fnExactAboveUptoRow, standIns := [], harness := (true, "13ca1297415e3ca453a9135987ea4d20271cc92bd21730b1790f06502931a980"), looks := false }, kinds := [], alts := [], laidByText := true, laidKinds := [.data, .pinned], laidTests := true, laidLooks := .later }
def FnExactAboveUptoCardSaid : Prop := Claim7.holds Tryd.pinned (.plain (OpenSpec.upto fnExactAboveSpec)) fnExactAboveUptoCard

/-- THE SECOND FORM's CARD OF 'laws.FnExactPutData'. -/
def fnExactPutDataUptoCard : Claim7 := { stood := { row := fnExactPutDataUptoRow, standIns := [], harness := (true, "13ca1297415e3ca453a9135987ea4d20271cc92bd21730b1790f06502931a980"), looks := false }, kinds := [], alts := [], laidByText := true, laidKinds := [.data, .pinned], laidTests := true, laidLooks := .later }
def FnExactPutDataUptoCardSaid : Prop := Claim7.holds Tryd.pinned (.plain (OpenSpec.upto fnExactPutDataSpec)) fnExactPutDataUptoCard
end Rows
end Go.Proofs.YtmcldfjfgmhklaaDoor
