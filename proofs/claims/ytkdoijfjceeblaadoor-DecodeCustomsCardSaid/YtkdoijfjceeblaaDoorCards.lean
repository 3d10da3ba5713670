/-
  DERIVED. GIVEN WITH THE SEED: THE CARDS: each row of YtkdoijfjceeblaaDoorRows.lean that lists a variable, with what it lists TIED to the program's text (the seventh form; the later family's looks); each row that meets fmt, with fmt's text TOLD by the authors' own Lean function (tested against real Go, not proved from fmt's source: count such statements apart). THE CARD IS WHAT COUNTS. Prove the row's statement (the work); the ties are given (YtkdoijfjceeblaaDoorTie.lean); close each card by the builder's one call (the guide's Derived/Test/ToyasCard.lean, 'card_holds'). Laid BY PROGRAM, IN A SANDBOX (cutbox-door.mjs). By AI agents, Wed Nov 11 2026. No macro, syntax, notation, axiom, sorry.
-/
import Derived.Test.YtkdoijfjceeblaaDoorRows
import GoSem.ClaimSeven
namespace Go.Proofs.YtkdoijfjceeblaaDoor
namespace Rows

/-- THE TIED CARD OF 'peloruslaw15.DecodeCustoms'. -/
def decodeCustomsCard : Claim7 := { stood := { row := decodeCustomsRow, standIns := [], harness := (true, "b338ba6a66cf9cc83d49245daf97026411d6a66d7cbb9a9c938d3a068dc932b1"), looks := true }, kinds := [], alts := [], laidByText := true, laidKinds := [.data, .pinned], laidTests := true, laidLooks := .later }
def DecodeCustomsCardSaid : Prop := Claim7.holds Tryd.pinned (.plain (OpenSpec.ofChange decodeCustomsSpec)) decodeCustomsCard

/-- THE TIED CARD OF 'peloruslaw15.DecodeCuts'. -/
def decodeCutsCard : Claim7 := { stood := { row := decodeCutsRow, standIns := [], harness := (true, "b338ba6a66cf9cc83d49245daf97026411d6a66d7cbb9a9c938d3a068dc932b1"), looks := true }, kinds := [], alts := [], laidByText := true, laidKinds := [.data, .pinned], laidTests := true, laidLooks := .later }
def DecodeCutsCardSaid : Prop := Claim7.holds Tryd.pinned (.plain (OpenSpec.ofChange decodeCutsSpec)) decodeCutsCard

/-- THE TIED CARD OF 'peloruslaw15.DecodeRows'. -/
def decodeRowsCard : Claim7 := { stood := { row := decodeRowsRow, standIns := [], harness := (true, "b338ba6a66cf9cc83d49245daf97026411d6a66d7cbb9a9c938d3a068dc932b1"), looks := true }, kinds := [], alts := [], laidByText := true, laidKinds := [.data, .pinned], laidTests := true, laidLooks := .later }
def DecodeRowsCardSaid : Prop := Claim7.holds Tryd.pinned (.plain (OpenSpec.ofChange decodeRowsSpec)) decodeRowsCard

/-- THE TIED CARD OF 'peloruslaw15.DecodeTypes'. -/
def decodeTypesCard : Claim7 := { stood := { row := decodeTypesRow, standIns := [], harness := (true, "b338ba6a66cf9cc83d49245daf97026411d6a66d7cbb9a9c938d3a068dc932b1"), looks := true }, kinds := [], alts := [], laidByText := true, laidKinds := [.data, .pinned], laidTests := true, laidLooks := .later }
def DecodeTypesCardSaid : Prop := Claim7.holds Tryd.pinned (.plain (OpenSpec.ofChange decodeTypesSpec)) decodeTypesCard

/-- THE TIED CARD OF 'peloruslaw15.DecodeLimits'. -/
def decodeLimitsCard : Claim7 := { stood := { row := decodeLimitsRow, standIns := [], harness := (true, "b338ba6a66cf9cc83d49245daf97026411d6a66d7cbb9a9c938d3a068dc932b1"), looks := true }, kinds := [], alts := [], laidByText := true, laidKinds := [.data, .pinned], laidTests := true, laidLooks := .later }
def DecodeLimitsCardSaid : Prop := Claim7.holds Tryd.pinned (.plain (OpenSpec.ofChange decodeLimitsSpec)) decodeLimitsCard

/-- THE TIED CARD OF 'peloruslaw15.DecodeSizes'. -/
def decodeSizesCard : Claim7 := { stood := { row := decodeSizesRow, standIns := [], harness := (true, "b338ba6a66cf9cc83d49245daf97026411d6a66d7cbb9a9c938d3a068dc932b1"), looks := true }, kinds := [], alts := [], laidByText := true, laidKinds := [.data, .pinned], laidTests := true, laidLooks := .later }
def DecodeSizesCardSaid : Prop := Claim7.holds Tryd.pinned (.plain (OpenSpec.ofChange decodeSizesSpec)) decodeSizesCard

/-- THE TIED CARD OF 'peloruslaw15.DecodeLong'. -/
def decodeLongCard : Claim7 := { stood := { row := decodeLongRow, standIns := [], harness := (true, "b338ba6a66cf9cc83d49245daf97026411d6a66d7cbb9a9c938d3a068dc932b1"), looks := true }, kinds := [], alts := [], laidByText := true, laidKinds := [.data, .pinned], laidTests := true, laidLooks := .later }
def DecodeLongCardSaid : Prop := Claim7.holds Tryd.pinned (.plain (OpenSpec.ofChange decodeLongSpec)) decodeLongCard

/-- THE TIED CARD OF 'peloruslaw15.DecodeCounts'. -/
def decodeCountsCard : Claim7 := { stood := { row := decodeCountsRow, standIns := [], harness := (true, "b338ba6a66cf9cc83d49245daf97026411d6a66d7cbb9a9c938d3a068dc932b1"), looks := true }, kinds := [], alts := [], laidByText := true, laidKinds := [.data, .pinned], laidTests := true, laidLooks := .later }
def DecodeCountsCardSaid : Prop := Claim7.holds Tryd.pinned (.plain (OpenSpec.ofChange decodeCountsSpec)) decodeCountsCard

/-- THE TIED CARD OF 'peloruslaw15.DecodeLocals'. -/
def decodeLocalsCard : Claim7 := { stood := { row := decodeLocalsRow, standIns := [], harness := (true, "b338ba6a66cf9cc83d49245daf97026411d6a66d7cbb9a9c938d3a068dc932b1"), looks := true }, kinds := [], alts := [], laidByText := true, laidKinds := [.data, .pinned], laidTests := true, laidLooks := .later }
def DecodeLocalsCardSaid : Prop := Claim7.holds Tryd.pinned (.plain (OpenSpec.ofChange decodeLocalsSpec)) decodeLocalsCard

/-- THE SECOND FORM's CARD OF 'peloruslaw15.DecodeCustoms'. -/
def decodeCustomsUptoCard : Claim7 := { stood := { row := decodeCustomsUptoRow, standIns := [], harness := (true, "b338ba6a66cf9cc83d49245daf97026411d6a66d7cbb9a9c938d3a068dc932b1"), looks := true }, kinds := [], alts := [], laidByText := true, laidKinds := [.data, .pinned], laidTests := true, laidLooks := .later }
def DecodeCustomsUptoCardSaid : Prop := Claim7.holds Tryd.pinned (.plain (OpenSpec.upto decodeCustomsSpec)) decodeCustomsUptoCard

/-- THE SECOND FORM's CARD OF 'peloruslaw15.DecodeCuts'. -/
def decodeCutsUptoCard : Claim7 := { stood := { row := decodeCutsUptoRow, standIns := [], harness := (true, "b338ba6a66cf9cc83d49245daf97026411d6a66d7cbb9a9c938d3a068dc932b1"), looks := true }, kinds := [], alts := [], laidByText := true, laidKinds := [.data, .pinned], laidTests := true, laidLooks := .later }
def DecodeCutsUptoCardSaid : Prop := Claim7.holds Tryd.pinned (.plain (OpenSpec.upto decodeCutsSpec)) decodeCutsUptoCard

/-- THE SECOND FORM's CARD OF 'peloruslaw15.DecodeRows'. -/
def decodeRowsUptoCard : Claim7 := { stood := { row := decodeRowsUptoRow, standIns := [], harness := (true, "b338ba6a66cf9cc83d49245daf97026411d6a66d7cbb9a9c938d3a068dc932b1"), looks := true }, kinds := [], alts := [], laidByText := true, laidKinds := [.data, .pinned], laidTests := true, laidLooks := .later }
def DecodeRowsUptoCardSaid : Prop := Claim7.holds Tryd.pinned (.plain (OpenSpec.upto decodeRowsSpec)) decodeRowsUptoCard

/-- THE SECOND FORM's CARD OF 'peloruslaw15.DecodeTypes'. -/
def decodeTypesUptoCard : Claim7 := { stood := { row := decodeTypesUptoRow, standIns := [], harness := (true, "b338ba6a66cf9cc83d49245daf97026411d6a66d7cbb9a9c938d3a068dc932b1"), looks := true }, kinds := [], alts := [], laidByText := true, laidKinds := [.data, .pinned], laidTests := true, laidLooks := .later }
def DecodeTypesUptoCardSaid : Prop := Claim7.holds Tryd.pinned (.plain (OpenSpec.upto decodeTypesSpec)) decodeTypesUptoCard

/-- THE SECOND FORM's CARD OF 'peloruslaw15.DecodeLimits'. -/
def decodeLimitsUptoCard : Claim7 := { stood := { row := decodeLimitsUptoRow, standIns := [], harness := (true, "b338ba6a66cf9cc83d49245daf97026411d6a66d7cbb9a9c938d3a068dc932b1"), looks := true }, kinds := [], alts := [], laidByText := true, laidKinds := [.data, .pinned], laidTests := true, laidLooks := .later }
def DecodeLimitsUptoCardSaid : Prop := Claim7.holds Tryd.pinned (.plain (OpenSpec.upto decodeLimitsSpec)) decodeLimitsUptoCard

/-- THE SECOND FORM's CARD OF 'peloruslaw15.DecodeSizes'. -/
def decodeSizesUptoCard : Claim7 := { stood := { row := decodeSizesUptoRow, standIns := [], harness := (true, "b338ba6a66cf9cc83d49245daf97026411d6a66d7cbb9a9c938d3a068dc932b1"), looks := true }, kinds := [], alts := [], laidByText := true, laidKinds := [.data, .pinned], laidTests := true, laidLooks := .later }
def DecodeSizesUptoCardSaid : Prop := Claim7.holds Tryd.pinned (.plain (OpenSpec.upto decodeSizesSpec)) decodeSizesUptoCard

/-- THE SECOND FORM's CARD OF 'peloruslaw15.DecodeLong'. -/
def decodeLongUptoCard : Claim7 := { stood := { row := decodeLongUptoRow, standIns := [], harness := (true, "b338ba6a66cf9cc83d49245daf97026411d6a66d7cbb9a9c938d3a068dc932b1"), looks := true }, kinds := [], alts := [], laidByText := true, laidKinds := [.data, .pinned], laidTests := true, laidLooks := .later }
def DecodeLongUptoCardSaid : Prop := Claim7.holds Tryd.pinned (.plain (OpenSpec.upto decodeLongSpec)) decodeLongUptoCard

/-- THE SECOND FORM's CARD OF 'peloruslaw15.DecodeCounts'. -/
def decodeCountsUptoCard : Claim7 := { stood := { row := decodeCountsUptoRow, standIns := [], harness := (true, "b338ba6a66cf9cc83d49245daf97026411d6a66d7cbb9a9c938d3a068dc932b1"), looks := true }, kinds := [], alts := [], laidByText := true, laidKinds := [.data, .pinned], laidTests := true, laidLooks := .later }
def DecodeCountsUptoCardSaid : Prop := Claim7.holds Tryd.pinned (.plain (OpenSpec.upto decodeCountsSpec)) decodeCountsUptoCard

/-- THE SECOND FORM's CARD OF 'peloruslaw15.DecodeLocals'. -/
def decodeLocalsUptoCard : Claim7 := { stood := { row := decodeLocalsUptoRow, standIns := [], harness := (true, "b338ba6a66cf9cc83d49245daf97026411d6a66d7cbb9a9c938d3a068dc932b1"), looks := true }, kinds := [], alts := [], laidByText := true, laidKinds := [.data, .pinned], laidTests := true, laidLooks := .later }
def DecodeLocalsUptoCardSaid : Prop := Claim7.holds Tryd.pinned (.plain (OpenSpec.upto decodeLocalsSpec)) decodeLocalsUptoCard
end Rows
end Go.Proofs.YtkdoijfjceeblaaDoor
