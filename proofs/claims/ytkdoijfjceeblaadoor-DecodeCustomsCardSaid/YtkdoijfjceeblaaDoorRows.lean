/-
  NARROWER THAN 'FOR EVERY INPUT', by the rows' own cells (each row's printed sentence says how): DecodeCustoms: laid · DecodeCuts: laid · DecodeRows: laid · DecodeTypes: laid · DecodeLimits: laid · DecodeSizes: laid · DecodeLong: laid · DecodeCounts: laid · DecodeLocals: laid.
  DERIVED. THE GIVEN ROWS OF THIS SEAT. 9 by the template 'for every input the law returns true; each argument reads behind the call as it read before'; 0 by the template 'total and deterministic' (their statements: YtkdoijfjceeblaaDoorTotals.lean).
  GIVEN WITH THE SEED: the statements are not yours to turn. If you find one false, say at which input.
  Laid BY PROGRAM, IN A SANDBOX (cutbox-rows.mjs): the forced cells as the released guide's own fill.sh prints them over the translation 20720432585ec972… (all of the seat's roots in one cut). By AI agents, Wed Nov 11 2026. No macro, syntax, notation, axiom, sorry.
-/
import Derived.Test.YtkdoijfjceeblaaDoorChecked
import GoSem.PinnedTables
import GoSem.Claim
import GoSem.ClaimJoined
import GoSem.ClaimMapViews
import Derived.JoinedTies
import Derived.KernelRfl
namespace Go.Proofs.YtkdoijfjceeblaaDoor
/- THE CELL 'sum', in the pinned program and in every row, IS THE sha256 OF THE DUMP (.gsa) THAT YtkdoijfjceeblaaDoorProg.lean LOADS. Nothing in Lean hashes anything: it is a label: what it is worth is what the hold of that sum in a sandbox is worth. -/
noncomputable def Tryd.pinned : Pinned := { name := "ytkdoijfjceeblaadoor", sum := "20720432585ec9729a5cc2efccf0c7900590d5943151fd2c3a5c83bb30d8c22e", checked := Tryd.checked }
namespace Rows
def none {H : Type} : Left H := { results := [], args := [] }

/- WHAT THE LISTED PACKAGE-LEVEL VARIABLES READ AS WHEN THE CALL BEGINS. Each datum BY PROGRAM (the guide's laid-datum.mjs) off the statement by which the dump's own 'gosem.cut.vars' lays the variable. In a bare row this is a premise. The card (YtkdoijfjceeblaaDoorCards.lean) ties it to the program's text. -/
def laid_unicode_utf8_acceptRanges {H : Type} : DataW H := .agg [.agg [.lit (.int .u8 128), .lit (.int .u8 191)], .agg [.lit (.int .u8 160), .lit (.int .u8 191)], .agg [.lit (.int .u8 128), .lit (.int .u8 159)], .agg [.lit (.int .u8 144), .lit (.int .u8 191)], .agg [.lit (.int .u8 128), .lit (.int .u8 143)], .agg [.lit (.int .u8 0), .lit (.int .u8 0)], .agg [.lit (.int .u8 0), .lit (.int .u8 0)], .agg [.lit (.int .u8 0), .lit (.int .u8 0)], .agg [.lit (.int .u8 0), .lit (.int .u8 0)], .agg [.lit (.int .u8 0), .lit (.int .u8 0)], .agg [.lit (.int .u8 0), .lit (.int .u8 0)], .agg [.lit (.int .u8 0), .lit (.int .u8 0)], .agg [.lit (.int .u8 0), .lit (.int .u8 0)], .agg [.lit (.int .u8 0), .lit (.int .u8 0)], .agg [.lit (.int .u8 0), .lit (.int .u8 0)], .agg [.lit (.int .u8 0), .lit (.int .u8 0)]]
/-- One of Go's own tables, pinned by name: the form's constant. -/
def laid_unicode_utf8_first : DataW Unit := Go.Pinned.utf8First

/-- 'peloruslaw15.DecodeCustoms': WHATEVER THE INPUT: true; the input reads as it did. -/
def decodeCustomsSpec : ChangeSpec := { name := "decodeCustoms", fn := fun _ => fun
  | [d1, d2, d3, d4] => { results := [.lit (.bool true)], args := [d1, d2, d3, d4] }
  | _ => none }
def decodeCustomsRow : OpenClaim := { program := "ytkdoijfjceeblaadoor", sum := "20720432585ec9729a5cc2efccf0c7900590d5943151fd2c3a5c83bb30d8c22e", func := "pelorus/peloruslaw15.DecodeCustoms", spec := "decodeCustoms", unfollowed := true, recurses := true, named := ["unicode/utf8.first", "unicode/utf8.acceptRanges"], apart := false, laid := [("unicode/utf8.acceptRanges", laid_unicode_utf8_acceptRanges), ("unicode/utf8.first", laid_unicode_utf8_first)] }
def DecodeCustomsSaid : Prop := decodeCustomsRow.holds Tryd.pinned (OpenSpec.ofChange decodeCustomsSpec)

/-- ITS FALSE NEIGHBOUR: 'it returns false'. Refute it at one input. -/
def decodeCustomsWrong : ChangeSpec := { name := "decodeCustoms", fn := fun _ => fun
  | [d1, d2, d3, d4] => { results := [.lit (.bool false)], args := [d1, d2, d3, d4] }
  | _ => none }
def DecodeCustomsWrongFalsely : Prop := decodeCustomsRow.holds Tryd.pinned (OpenSpec.ofChange decodeCustomsWrong)

/-- 'peloruslaw15.DecodeCuts': WHATEVER THE INPUT: true; the input reads as it did. -/
def decodeCutsSpec : ChangeSpec := { name := "decodeCuts", fn := fun _ => fun
  | [d1, d2] => { results := [.lit (.bool true)], args := [d1, d2] }
  | _ => none }
def decodeCutsRow : OpenClaim := { program := "ytkdoijfjceeblaadoor", sum := "20720432585ec9729a5cc2efccf0c7900590d5943151fd2c3a5c83bb30d8c22e", func := "pelorus/peloruslaw15.DecodeCuts", spec := "decodeCuts", unfollowed := true, recurses := true, named := ["unicode/utf8.first", "unicode/utf8.acceptRanges"], apart := false, laid := [("unicode/utf8.acceptRanges", laid_unicode_utf8_acceptRanges), ("unicode/utf8.first", laid_unicode_utf8_first)] }
def DecodeCutsSaid : Prop := decodeCutsRow.holds Tryd.pinned (OpenSpec.ofChange decodeCutsSpec)

/-- ITS FALSE NEIGHBOUR: 'it returns false'. Refute it at one input. -/
def decodeCutsWrong : ChangeSpec := { name := "decodeCuts", fn := fun _ => fun
  | [d1, d2] => { results := [.lit (.bool false)], args := [d1, d2] }
  | _ => none }
def DecodeCutsWrongFalsely : Prop := decodeCutsRow.holds Tryd.pinned (OpenSpec.ofChange decodeCutsWrong)

/-- 'peloruslaw15.DecodeRows': WHATEVER THE INPUT: true; the input reads as it did. -/
def decodeRowsSpec : ChangeSpec := { name := "decodeRows", fn := fun _ => fun
  | [d1, d2] => { results := [.lit (.bool true)], args := [d1, d2] }
  | _ => none }
def decodeRowsRow : OpenClaim := { program := "ytkdoijfjceeblaadoor", sum := "20720432585ec9729a5cc2efccf0c7900590d5943151fd2c3a5c83bb30d8c22e", func := "pelorus/peloruslaw15.DecodeRows", spec := "decodeRows", unfollowed := true, recurses := true, named := ["unicode/utf8.first", "unicode/utf8.acceptRanges"], apart := false, laid := [("unicode/utf8.acceptRanges", laid_unicode_utf8_acceptRanges), ("unicode/utf8.first", laid_unicode_utf8_first)] }
def DecodeRowsSaid : Prop := decodeRowsRow.holds Tryd.pinned (OpenSpec.ofChange decodeRowsSpec)

/-- ITS FALSE NEIGHBOUR: 'it returns false'. Refute it at one input. -/
def decodeRowsWrong : ChangeSpec := { name := "decodeRows", fn := fun _ => fun
  | [d1, d2] => { results := [.lit (.bool false)], args := [d1, d2] }
  | _ => none }
def DecodeRowsWrongFalsely : Prop := decodeRowsRow.holds Tryd.pinned (OpenSpec.ofChange decodeRowsWrong)

/-- 'peloruslaw15.DecodeTypes': WHATEVER THE INPUT: true; the input reads as it did. -/
def decodeTypesSpec : ChangeSpec := { name := "decodeTypes", fn := fun _ => fun
  | [d1, d2, d3] => { results := [.lit (.bool true)], args := [d1, d2, d3] }
  | _ => none }
def decodeTypesRow : OpenClaim := { program := "ytkdoijfjceeblaadoor", sum := "20720432585ec9729a5cc2efccf0c7900590d5943151fd2c3a5c83bb30d8c22e", func := "pelorus/peloruslaw15.DecodeTypes", spec := "decodeTypes", unfollowed := true, recurses := true, named := ["unicode/utf8.first", "unicode/utf8.acceptRanges"], apart := false, laid := [("unicode/utf8.acceptRanges", laid_unicode_utf8_acceptRanges), ("unicode/utf8.first", laid_unicode_utf8_first)] }
def DecodeTypesSaid : Prop := decodeTypesRow.holds Tryd.pinned (OpenSpec.ofChange decodeTypesSpec)

/-- ITS FALSE NEIGHBOUR: 'it returns false'. Refute it at one input. -/
def decodeTypesWrong : ChangeSpec := { name := "decodeTypes", fn := fun _ => fun
  | [d1, d2, d3] => { results := [.lit (.bool false)], args := [d1, d2, d3] }
  | _ => none }
def DecodeTypesWrongFalsely : Prop := decodeTypesRow.holds Tryd.pinned (OpenSpec.ofChange decodeTypesWrong)

/-- 'peloruslaw15.DecodeLimits': WHATEVER THE INPUT: true; the input reads as it did. -/
def decodeLimitsSpec : ChangeSpec := { name := "decodeLimits", fn := fun _ => fun
  | [d1, d2, d3] => { results := [.lit (.bool true)], args := [d1, d2, d3] }
  | _ => none }
def decodeLimitsRow : OpenClaim := { program := "ytkdoijfjceeblaadoor", sum := "20720432585ec9729a5cc2efccf0c7900590d5943151fd2c3a5c83bb30d8c22e", func := "pelorus/peloruslaw15.DecodeLimits", spec := "decodeLimits", unfollowed := true, recurses := true, named := ["unicode/utf8.first", "unicode/utf8.acceptRanges"], apart := false, laid := [("unicode/utf8.acceptRanges", laid_unicode_utf8_acceptRanges), ("unicode/utf8.first", laid_unicode_utf8_first)] }
def DecodeLimitsSaid : Prop := decodeLimitsRow.holds Tryd.pinned (OpenSpec.ofChange decodeLimitsSpec)

/-- ITS FALSE NEIGHBOUR: 'it returns false'. Refute it at one input. -/
def decodeLimitsWrong : ChangeSpec := { name := "decodeLimits", fn := fun _ => fun
  | [d1, d2, d3] => { results := [.lit (.bool false)], args := [d1, d2, d3] }
  | _ => none }
def DecodeLimitsWrongFalsely : Prop := decodeLimitsRow.holds Tryd.pinned (OpenSpec.ofChange decodeLimitsWrong)

/-- 'peloruslaw15.DecodeSizes': WHATEVER THE INPUT: true; the input reads as it did. -/
def decodeSizesSpec : ChangeSpec := { name := "decodeSizes", fn := fun _ => fun
  | [d1, d2] => { results := [.lit (.bool true)], args := [d1, d2] }
  | _ => none }
def decodeSizesRow : OpenClaim := { program := "ytkdoijfjceeblaadoor", sum := "20720432585ec9729a5cc2efccf0c7900590d5943151fd2c3a5c83bb30d8c22e", func := "pelorus/peloruslaw15.DecodeSizes", spec := "decodeSizes", unfollowed := true, recurses := true, named := ["unicode/utf8.first", "unicode/utf8.acceptRanges"], apart := false, laid := [("unicode/utf8.acceptRanges", laid_unicode_utf8_acceptRanges), ("unicode/utf8.first", laid_unicode_utf8_first)] }
def DecodeSizesSaid : Prop := decodeSizesRow.holds Tryd.pinned (OpenSpec.ofChange decodeSizesSpec)

/-- ITS FALSE NEIGHBOUR: 'it returns false'. Refute it at one input. -/
def decodeSizesWrong : ChangeSpec := { name := "decodeSizes", fn := fun _ => fun
  | [d1, d2] => { results := [.lit (.bool false)], args := [d1, d2] }
  | _ => none }
def DecodeSizesWrongFalsely : Prop := decodeSizesRow.holds Tryd.pinned (OpenSpec.ofChange decodeSizesWrong)

/-- 'peloruslaw15.DecodeLong': WHATEVER THE INPUT: true; the input reads as it did. -/
def decodeLongSpec : ChangeSpec := { name := "decodeLong", fn := fun _ => fun
  | [d1, d2] => { results := [.lit (.bool true)], args := [d1, d2] }
  | _ => none }
def decodeLongRow : OpenClaim := { program := "ytkdoijfjceeblaadoor", sum := "20720432585ec9729a5cc2efccf0c7900590d5943151fd2c3a5c83bb30d8c22e", func := "pelorus/peloruslaw15.DecodeLong", spec := "decodeLong", unfollowed := true, recurses := true, named := ["unicode/utf8.first", "unicode/utf8.acceptRanges"], apart := false, laid := [("unicode/utf8.acceptRanges", laid_unicode_utf8_acceptRanges), ("unicode/utf8.first", laid_unicode_utf8_first)] }
def DecodeLongSaid : Prop := decodeLongRow.holds Tryd.pinned (OpenSpec.ofChange decodeLongSpec)

/-- ITS FALSE NEIGHBOUR: 'it returns false'. Refute it at one input. -/
def decodeLongWrong : ChangeSpec := { name := "decodeLong", fn := fun _ => fun
  | [d1, d2] => { results := [.lit (.bool false)], args := [d1, d2] }
  | _ => none }
def DecodeLongWrongFalsely : Prop := decodeLongRow.holds Tryd.pinned (OpenSpec.ofChange decodeLongWrong)

/-- 'peloruslaw15.DecodeCounts': WHATEVER THE INPUT: true; the input reads as it did. -/
def decodeCountsSpec : ChangeSpec := { name := "decodeCounts", fn := fun _ => fun
  | [d1, d2] => { results := [.lit (.bool true)], args := [d1, d2] }
  | _ => none }
def decodeCountsRow : OpenClaim := { program := "ytkdoijfjceeblaadoor", sum := "20720432585ec9729a5cc2efccf0c7900590d5943151fd2c3a5c83bb30d8c22e", func := "pelorus/peloruslaw15.DecodeCounts", spec := "decodeCounts", unfollowed := true, recurses := true, named := ["unicode/utf8.first", "unicode/utf8.acceptRanges"], apart := false, laid := [("unicode/utf8.acceptRanges", laid_unicode_utf8_acceptRanges), ("unicode/utf8.first", laid_unicode_utf8_first)] }
def DecodeCountsSaid : Prop := decodeCountsRow.holds Tryd.pinned (OpenSpec.ofChange decodeCountsSpec)

/-- ITS FALSE NEIGHBOUR: 'it returns false'. Refute it at one input. -/
def decodeCountsWrong : ChangeSpec := { name := "decodeCounts", fn := fun _ => fun
  | [d1, d2] => { results := [.lit (.bool false)], args := [d1, d2] }
  | _ => none }
def DecodeCountsWrongFalsely : Prop := decodeCountsRow.holds Tryd.pinned (OpenSpec.ofChange decodeCountsWrong)

/-- 'peloruslaw15.DecodeLocals': WHATEVER THE INPUT: true; the input reads as it did. -/
def decodeLocalsSpec : ChangeSpec := { name := "decodeLocals", fn := fun _ => fun
  | [d1, d2, d3] => { results := [.lit (.bool true)], args := [d1, d2, d3] }
  | _ => none }
def decodeLocalsRow : OpenClaim := { program := "ytkdoijfjceeblaadoor", sum := "20720432585ec9729a5cc2efccf0c7900590d5943151fd2c3a5c83bb30d8c22e", func := "pelorus/peloruslaw15.DecodeLocals", spec := "decodeLocals", unfollowed := true, recurses := true, named := ["unicode/utf8.first", "unicode/utf8.acceptRanges"], apart := false, laid := [("unicode/utf8.acceptRanges", laid_unicode_utf8_acceptRanges), ("unicode/utf8.first", laid_unicode_utf8_first)] }
def DecodeLocalsSaid : Prop := decodeLocalsRow.holds Tryd.pinned (OpenSpec.ofChange decodeLocalsSpec)

/-- ITS FALSE NEIGHBOUR: 'it returns false'. Refute it at one input. -/
def decodeLocalsWrong : ChangeSpec := { name := "decodeLocals", fn := fun _ => fun
  | [d1, d2, d3] => { results := [.lit (.bool false)], args := [d1, d2, d3] }
  | _ => none }
def DecodeLocalsWrongFalsely : Prop := decodeLocalsRow.holds Tryd.pinned (OpenSpec.ofChange decodeLocalsWrong)

/- THE SECOND FORM. 'bulk': how many values and letters a reading holds, each counted each time it is reached (what is shared counts as often as it is met; a slice's spare places count too). A statement '..UptoSaid' is the law's where the arguments, and the package variables that the reading takes, are together of bulk at most 1048576: NARROWER than '..Said'. Prove '..Said' where nothing that the law and all that it calls make is longer than what came in: it says more and counts as full. Else prove '..UptoSaid'. A law counts once. -/
mutual
def uptoBulk {H : Type} : DataW H → Nat
  | .lit (.string bytes) => bytes.length + 1
  | .lit _ => 1
  | .nil => 1
  | .ptr d => uptoBulk d + 1
  | .slice elems spare => uptoBulkAll elems + uptoBulkAll spare + 1
  | .agg parts => uptoBulkAll parts + 1
  | .iface _ d => uptoBulk d + 1
  | .map entries => uptoBulkEntries entries + 1
  | .held _ => 1
def uptoBulkAll {H : Type} : List (DataW H) → Nat
  | [] => 0
  | d :: r => uptoBulk d + uptoBulkAll r
def uptoBulkEntries {H : Type} : List (Lit × DataW H) → Nat
  | [] => 0
  | x :: r => uptoBulkEntry x + uptoBulkEntries r
def uptoBulkEntry {H : Type} : Lit × DataW H → Nat
  | (.string bytes, d) => bytes.length + uptoBulk d + 1
  | (_, d) => uptoBulk d + 1
 end
def uptoSmall : (H : Type) → List (DataW H) → Bool := fun _ ds => decide (uptoBulkAll ds ≤ 1048576)
def OpenSpec.upto (s : _root_.Go.ChangeSpec) : _root_.Go.OpenSpec := { _root_.Go.OpenSpec.ofChange s with cond := some uptoSmall }

/-- 'peloruslaw15.DecodeCustoms', WHERE WHAT IT READS IS OF BULK AT MOST 1048576: true; the input reads as it did. -/
def decodeCustomsUptoRow : OpenClaim := { program := "ytkdoijfjceeblaadoor", sum := "20720432585ec9729a5cc2efccf0c7900590d5943151fd2c3a5c83bb30d8c22e", func := "pelorus/peloruslaw15.DecodeCustoms", spec := "decodeCustoms", unfollowed := true, recurses := true, named := ["unicode/utf8.first", "unicode/utf8.acceptRanges"], apart := false, laid := [("unicode/utf8.acceptRanges", laid_unicode_utf8_acceptRanges), ("unicode/utf8.first", laid_unicode_utf8_first)], narrowed := true }
def DecodeCustomsUptoSaid : Prop := decodeCustomsUptoRow.holds Tryd.pinned (OpenSpec.upto decodeCustomsSpec)

/-- 'peloruslaw15.DecodeCuts', WHERE WHAT IT READS IS OF BULK AT MOST 1048576: true; the input reads as it did. -/
def decodeCutsUptoRow : OpenClaim := { program := "ytkdoijfjceeblaadoor", sum := "20720432585ec9729a5cc2efccf0c7900590d5943151fd2c3a5c83bb30d8c22e", func := "pelorus/peloruslaw15.DecodeCuts", spec := "decodeCuts", unfollowed := true, recurses := true, named := ["unicode/utf8.first", "unicode/utf8.acceptRanges"], apart := false, laid := [("unicode/utf8.acceptRanges", laid_unicode_utf8_acceptRanges), ("unicode/utf8.first", laid_unicode_utf8_first)], narrowed := true }
def DecodeCutsUptoSaid : Prop := decodeCutsUptoRow.holds Tryd.pinned (OpenSpec.upto decodeCutsSpec)

/-- 'peloruslaw15.DecodeRows', WHERE WHAT IT READS IS OF BULK AT MOST 1048576: true; the input reads as it did. -/
def decodeRowsUptoRow : OpenClaim := { program := "ytkdoijfjceeblaadoor", sum := "20720432585ec9729a5cc2efccf0c7900590d5943151fd2c3a5c83bb30d8c22e", func := "pelorus/peloruslaw15.DecodeRows", spec := "decodeRows", unfollowed := true, recurses := true, named := ["unicode/utf8.first", "unicode/utf8.acceptRanges"], apart := false, laid := [("unicode/utf8.acceptRanges", laid_unicode_utf8_acceptRanges), ("unicode/utf8.first", laid_unicode_utf8_first)], narrowed := true }
def DecodeRowsUptoSaid : Prop := decodeRowsUptoRow.holds Tryd.pinned (OpenSpec.upto decodeRowsSpec)

/-- 'peloruslaw15.DecodeTypes', WHERE WHAT IT READS IS OF BULK AT MOST 1048576: true; the input reads as it did. -/
def decodeTypesUptoRow : OpenClaim := { program := "ytkdoijfjceeblaadoor", sum := "20720432585ec9729a5cc2efccf0c7900590d5943151fd2c3a5c83bb30d8c22e", func := "pelorus/peloruslaw15.DecodeTypes", spec := "decodeTypes", unfollowed := true, recurses := true, named := ["unicode/utf8.first", "unicode/utf8.acceptRanges"], apart := false, laid := [("unicode/utf8.acceptRanges", laid_unicode_utf8_acceptRanges), ("unicode/utf8.first", laid_unicode_utf8_first)], narrowed := true }
def DecodeTypesUptoSaid : Prop := decodeTypesUptoRow.holds Tryd.pinned (OpenSpec.upto decodeTypesSpec)

/-- 'peloruslaw15.DecodeLimits', WHERE WHAT IT READS IS OF BULK AT MOST 1048576: true; the input reads as it did. -/
def decodeLimitsUptoRow : OpenClaim := { program := "ytkdoijfjceeblaadoor", sum := "20720432585ec9729a5cc2efccf0c7900590d5943151fd2c3a5c83bb30d8c22e", func := "pelorus/peloruslaw15.DecodeLimits", spec := "decodeLimits", unfollowed := true, recurses := true, named := ["unicode/utf8.first", "unicode/utf8.acceptRanges"], apart := false, laid := [("unicode/utf8.acceptRanges", laid_unicode_utf8_acceptRanges), ("unicode/utf8.first", laid_unicode_utf8_first)], narrowed := true }
def DecodeLimitsUptoSaid : Prop := decodeLimitsUptoRow.holds Tryd.pinned (OpenSpec.upto decodeLimitsSpec)

/-- 'peloruslaw15.DecodeSizes', WHERE WHAT IT READS IS OF BULK AT MOST 1048576: true; the input reads as it did. -/
def decodeSizesUptoRow : OpenClaim := { program := "ytkdoijfjceeblaadoor", sum := "20720432585ec9729a5cc2efccf0c7900590d5943151fd2c3a5c83bb30d8c22e", func := "pelorus/peloruslaw15.DecodeSizes", spec := "decodeSizes", unfollowed := true, recurses := true, named := ["unicode/utf8.first", "unicode/utf8.acceptRanges"], apart := false, laid := [("unicode/utf8.acceptRanges", laid_unicode_utf8_acceptRanges), ("unicode/utf8.first", laid_unicode_utf8_first)], narrowed := true }
def DecodeSizesUptoSaid : Prop := decodeSizesUptoRow.holds Tryd.pinned (OpenSpec.upto decodeSizesSpec)

/-- 'peloruslaw15.DecodeLong', WHERE WHAT IT READS IS OF BULK AT MOST 1048576: true; the input reads as it did. -/
def decodeLongUptoRow : OpenClaim := { program := "ytkdoijfjceeblaadoor", sum := "20720432585ec9729a5cc2efccf0c7900590d5943151fd2c3a5c83bb30d8c22e", func := "pelorus/peloruslaw15.DecodeLong", spec := "decodeLong", unfollowed := true, recurses := true, named := ["unicode/utf8.first", "unicode/utf8.acceptRanges"], apart := false, laid := [("unicode/utf8.acceptRanges", laid_unicode_utf8_acceptRanges), ("unicode/utf8.first", laid_unicode_utf8_first)], narrowed := true }
def DecodeLongUptoSaid : Prop := decodeLongUptoRow.holds Tryd.pinned (OpenSpec.upto decodeLongSpec)

/-- 'peloruslaw15.DecodeCounts', WHERE WHAT IT READS IS OF BULK AT MOST 1048576: true; the input reads as it did. -/
def decodeCountsUptoRow : OpenClaim := { program := "ytkdoijfjceeblaadoor", sum := "20720432585ec9729a5cc2efccf0c7900590d5943151fd2c3a5c83bb30d8c22e", func := "pelorus/peloruslaw15.DecodeCounts", spec := "decodeCounts", unfollowed := true, recurses := true, named := ["unicode/utf8.first", "unicode/utf8.acceptRanges"], apart := false, laid := [("unicode/utf8.acceptRanges", laid_unicode_utf8_acceptRanges), ("unicode/utf8.first", laid_unicode_utf8_first)], narrowed := true }
def DecodeCountsUptoSaid : Prop := decodeCountsUptoRow.holds Tryd.pinned (OpenSpec.upto decodeCountsSpec)

/-- 'peloruslaw15.DecodeLocals', WHERE WHAT IT READS IS OF BULK AT MOST 1048576: true; the input reads as it did. -/
def decodeLocalsUptoRow : OpenClaim := { program := "ytkdoijfjceeblaadoor", sum := "20720432585ec9729a5cc2efccf0c7900590d5943151fd2c3a5c83bb30d8c22e", func := "pelorus/peloruslaw15.DecodeLocals", spec := "decodeLocals", unfollowed := true, recurses := true, named := ["unicode/utf8.first", "unicode/utf8.acceptRanges"], apart := false, laid := [("unicode/utf8.acceptRanges", laid_unicode_utf8_acceptRanges), ("unicode/utf8.first", laid_unicode_utf8_first)], narrowed := true }
def DecodeLocalsUptoSaid : Prop := decodeLocalsUptoRow.holds Tryd.pinned (OpenSpec.upto decodeLocalsSpec)

end Rows
end Go.Proofs.YtkdoijfjceeblaaDoor
