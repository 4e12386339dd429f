/-
  DERIVED. GIVEN WITH THE SEED: THE CARDS: each row of YtbohkphbgkgaeaaDoorRows.lean that lists a variable, with what it lists TIED to the program's text (the seventh form; the later family's looks); each row that meets fmt, with fmt's text TOLD by the authors' own Lean function (tested against real Go, not proved from fmt's source: count such statements apart). THE CARD IS WHAT COUNTS. Prove the row's statement (the work); the ties are given (YtbohkphbgkgaeaaDoorTie.lean); close each card by the builder's one call (the guide's Derived/Test/ToyasCard.lean, 'card_holds'). Laid BY PROGRAM, IN A SANDBOX (cutbox-door.mjs). By AI agents, Wed Nov 11 2026. No macro, syntax, notation, axiom, sorry.
-/
import Derived.Test.YtbohkphbgkgaeaaDoorRows
import GoSem.ClaimSeven
namespace Go.Proofs.YtbohkphbgkgaeaaDoor
namespace Rows

/-- THE TIED CARD OF 'laws.FnExactPutRecords'. -/
def fnExactPutRecordsCard : Claim7 := { stood := { row := fnExactPutRecordsRow, standIns := [], harness := (true, "b70de237550c2a2eacd6e89c77b4903c037ed7b5982d9608ec0f9ea268c2539b"), looks := false }, kinds := [], alts := [], laidByText := true, laidKinds := [.data, .pinned], laidTests := true, laidLooks := .later }
def FnExactPutRecordsCardSaid : Prop := Claim7.holds Tryd.pinned (.plain (OpenSpec.ofChange fnExactPutRecordsSpec)) fnExactPutRecordsCard

/-- THE TIED CARD OF 'laws.FnOrders'. -/
def fnOrdersCard : Claim7 := { stood := { row := fnOrdersRow, standIns := [], harness := (true, "b70de237550c2a2eacd6e89c77b4903c037ed7b5982d9608ec0f9ea268c2539b"), looks := false }, kinds := [], alts := [], laidByText := true, laidKinds := [.data, .pinned], laidTests := true, laidLooks := .later }
def FnOrdersCardSaid : Prop := Claim7.holds Tryd.pinned (.plain (OpenSpec.ofChange fnOrdersSpec)) fnOrdersCard

/-- THE TIED CARD OF 'laws.FnJoins'. -/
def fnJoinsCard : Claim7 := { stood := { row := fnJoinsRow, standIns := [], harness := (true, "b70de237550c2a2eacd6e89c77b4903c037ed7b5982d9608ec0f9ea268c2539b"), looks := false }, kinds := [], alts := [], laidByText := true, laidKinds := [.data, .pinned], laidTests := true, laidLooks := .later }
def FnJoinsCardSaid : Prop := Claim7.holds Tryd.pinned (.plain (OpenSpec.ofChange fnJoinsSpec)) fnJoinsCard

/-- THE TIED CARD OF 'laws.FnNames'. -/
def fnNamesCard : Claim7 := { stood := { row := fnNamesRow, standIns := [], harness := (true, "b70de237550c2a2eacd6e89c77b4903c037ed7b5982d9608ec0f9ea268c2539b"), looks := false }, kinds := [], alts := [], laidByText := true, laidKinds := [.data, .pinned], laidTests := true, laidLooks := .later }
def FnNamesCardSaid : Prop := Claim7.holds Tryd.pinned (.plain (OpenSpec.ofChange fnNamesSpec)) fnNamesCard

/-- THE TIED CARD OF 'laws.FnWiresBent'. -/
def fnWiresBentCard : Claim7 := { stood := { row := fnWiresBentRow, standIns := [], harness := (true, "b70de237550c2a2eacd6e89c77b4903c037ed7b5982d9608ec0f9ea268c2539b"), looks := false }, kinds := [], alts := [], laidByText := true, laidKinds := [.data, .pinned], laidTests := true, laidLooks := .later }
def FnWiresBentCardSaid : Prop := Claim7.holds Tryd.pinned (.plain (OpenSpec.ofChange fnWiresBentSpec)) fnWiresBentCard

/-- THE TIED CARD OF 'laws.FnWires'. -/
def fnWiresCard : Claim7 := { stood := { row := fnWiresRow, standIns := [], harness := (true, "b70de237550c2a2eacd6e89c77b4903c037ed7b5982d9608ec0f9ea268c2539b"), looks := false }, kinds := [], alts := [], laidByText := true, laidKinds := [.data, .pinned], laidTests := true, laidLooks := .later }
def FnWiresCardSaid : Prop := Claim7.holds Tryd.pinned (.plain (OpenSpec.ofChange fnWiresSpec)) fnWiresCard

/-- THE TIED CARD OF 'laws.FnMsgs'. -/
def fnMsgsCard : Claim7 := { stood := { row := fnMsgsRow, standIns := [], harness := (true, "b70de237550c2a2eacd6e89c77b4903c037ed7b5982d9608ec0f9ea268c2539b"), looks := false }, kinds := [], alts := [], laidByText := true, laidKinds := [.data, .pinned], laidTests := true, laidLooks := .later }
def FnMsgsCardSaid : Prop := Claim7.holds Tryd.pinned (.plain (OpenSpec.ofChange fnMsgsSpec)) fnMsgsCard

/-- THE TIED CARD OF 'laws.FnRecords'. -/
def fnRecordsCard : Claim7 := { stood := { row := fnRecordsRow, standIns := [], harness := (true, "b70de237550c2a2eacd6e89c77b4903c037ed7b5982d9608ec0f9ea268c2539b"), looks := false }, kinds := [], alts := [], laidByText := true, laidKinds := [.data, .pinned], laidTests := true, laidLooks := .later }
def FnRecordsCardSaid : Prop := Claim7.holds Tryd.pinned (.plain (OpenSpec.ofChange fnRecordsSpec)) fnRecordsCard

/-- THE SECOND FORM's CARD OF 'laws.FnExactPutRecords'. -/
def fnExactPutRecordsUptoCard : Claim7 := { stood := { row := fnExactPutRecordsUptoRow, standIns := [], harness := (true, "b70de237550c2a2eacd6e89c77b4903c037ed7b5982d9608ec0f9ea268c2539b"), looks := false }, kinds := [], alts := [], laidByText := true, laidKinds := [.data, .pinned], laidTests := true, laidLooks := .later }
def FnExactPutRecordsUptoCardSaid : Prop := Claim7.holds Tryd.pinned (.plain (OpenSpec.upto fnExactPutRecordsSpec)) fnExactPutRecordsUptoCard

/-- THE SECOND FORM's CARD OF 'laws.FnOrders'. -/
def fnOrdersUptoCard : Claim7 := { stood := { row := fnOrdersUptoRow, standIns := [], harness := (true, "b70de237550c2a2eacd6e89c77b4903c037ed7b5982d9608ec0f9ea268c2539b"), looks := false }, kinds := [], alts := [], laidByText := true, laidKinds := [.data, .pinned], laidTests := true, laidLooks := .later }
def FnOrdersUptoCardSaid : Prop := Claim7.holds Tryd.pinned (.plain (OpenSpec.upto fnOrdersSpec)) fnOrdersUptoCard

/-- THE SECOND FORM's CARD OF 'laws.FnJoins'. -/
def fnJoinsUptoCard : Claim7 := { stood := { row := fnJoinsUptoRow, standIns := [], harness := (true, "b70de237550c2a2eacd6e89c77b4903c037ed7b5982d9608ec0f9ea268c2539b"), looks := false }, kinds := [], alts := [], laidByText := true, laidKinds := [.data, .pinned], laidTests := true, laidLooks := .later }
def FnJoinsUptoCardSaid : Prop := Claim7.holds Tryd.pinned (.plain (OpenSpec.upto fnJoinsSpec)) fnJoinsUptoCard

/-- THE SECOND FORM's CARD OF 'laws.FnNames'. -/
def fnNamesUptoCard : Claim7 := { stood := { row := fnNamesUptoRow, standIns := [], harness := (true, "b70de237550c2a2eacd6e89c77b4903c037ed7b5982d9608ec0f9ea268c2539b"), looks := false }, kinds := [], alts := [], laidByText := true, laidKinds := [.data, .pinned], laidTests := true, laidLooks := .later }
def FnNamesUptoCardSaid : Prop := Claim7.holds Tryd.pinned (.plain (OpenSpec.upto fnNamesSpec)) fnNamesUptoCard

/-- THE SECOND FORM's CARD OF 'laws.FnWiresBent'. -/
def fnWiresBentUptoCard : Claim7 := { stood := { row := fnWiresBentUptoRow, standIns := [], harness := (true, "b70de237550c2a2eacd6e89c77b4903c037ed7b5982d9608ec0f9ea268c2539b"), looks := false }, kinds := [], alts := [], laidByText := true, laidKinds := [.data, .pinned], laidTests := true, laidLooks := .later }
def FnWiresBentUptoCardSaid : Prop := Claim7.holds Tryd.pinned (.plain (OpenSpec.upto fnWiresBentSpec)) fnWiresBentUptoCard

/-- THE SECOND FORM's CARD OF 'laws.FnWires'. -/
def fnWiresUptoCard : Claim7 := { stood := { row := fnWiresUptoRow, standIns := [], harness := (true, "b70de237550c2a2eacd6e89c77b4903c037ed7b5982d9608ec0f9ea268c2539b"), looks := false }, kinds := [], alts := [], laidByText := true, laidKinds := [.data, .pinned], laidTests := true, laidLooks := .later }
def FnWiresUptoCardSaid : Prop := Claim7.holds Tryd.pinned (.plain (OpenSpec.upto fnWiresSpec)) fnWiresUptoCard

/-- THE SECOND FORM's CARD OF 'laws.FnMsgs'. -/
def fnMsgsUptoCard : Claim7 := { stood := { row := fnMsgsUptoRow, standIns := [], harness := (true, "b70de237550c2a2eacd6e89c77b4903c037ed7b5982d9608ec0f9ea268c2539b"), looks := false }, kinds := [], alts := [], laidByText := true, laidKinds := [.data, .pinned], laidTests := true, laidLooks := .later }
def FnMsgsUptoCardSaid : Prop := Claim7.holds Tryd.pinned (.plain (OpenSpec.upto fnMsgsSpec)) fnMsgsUptoCard

/-- THE SECOND FORM's CARD OF 'laws.FnRecords'. -/
def fnRecordsUptoCard : Claim7 := { stood := { row := fnRecordsUptoRow, standIns := [], harness := (true, "b70de237550c2a2eacd6e89c77b4903c037ed7b5982d9608ec0f9ea268c2539b"), looks := false }, kinds := [], alts := [], laidByText := true, laidKinds := [.data, .pinned], laidTests := true, laidLooks := .later }
def FnRecordsUptoCardSaid : Prop := Claim7.holds Tryd.pinned (.plain (OpenSpec.upto fnRecordsSpec)) fnRecordsUptoCard
end Rows
end Go.Proofs.YtbohkphbgkgaeaaDoor
