/-
  No cell of these rows narrows 'for every input' (looked for: loops, veiled, ifaces, maps, wideKeys, modest, calm, conditions, laid).
  DERIVED. THE GIVEN ROWS OF THIS SEAT. 6 by the template 'for every input the law returns true; each argument reads behind the call as it read before'; 0 by the template 'total and deterministic' (their statements: YtflejniglhjbfaaTotals.lean).
  GIVEN WITH THE SEED: the statements are not yours to turn. If you find one false, say at which input.
  Laid BY PROGRAM, IN A SANDBOX (cutbox-rows.mjs): the forced cells as the released guide's own fill.sh prints them over the translation aad19d47e380bb0f… (all of the seat's roots in one cut). By AI agents, Wed Nov 11 2026. No macro, syntax, notation, axiom, sorry.
-/
import Derived.Test.YtflejniglhjbfaaChecked
import GoSem.Claim
import GoSem.ClaimJoined
import GoSem.ClaimMapViews
import Derived.JoinedTies
import Derived.KernelRfl
namespace Go.Proofs.Ytflejniglhjbfaa
/- THE CELL 'sum', in the pinned program and in every row, IS THE sha256 OF THE DUMP (.gsa) THAT YtflejniglhjbfaaProg.lean LOADS. Nothing in Lean hashes anything: it is a label: what it is worth is what the hold of that sum in a sandbox is worth. -/
noncomputable def Try.pinned : Pinned := { name := "ytflejniglhjbfaa", sum := "aad19d47e380bb0ffe9960445745fdb498ac8d7605dea58730144f668f3e1f00", checked := Try.checked }
namespace Rows
def none {H : Type} : Left H := { results := [], args := [] }

/-- 'peloruslaw12.Lebs': WHATEVER THE INPUT: true; the input reads as it did. -/
def lebsSpec : ChangeSpec := { name := "lebs", fn := fun _ => fun
  | [d1, d2, d3, d4] => { results := [.lit (.bool true)], args := [d1, d2, d3, d4] }
  | _ => none }
def lebsRow : OpenClaim := { program := "ytflejniglhjbfaa", sum := "aad19d47e380bb0ffe9960445745fdb498ac8d7605dea58730144f668f3e1f00", func := "pelorus/peloruslaw12.Lebs", spec := "lebs", apart := false }
def LebsSaid : Prop := lebsRow.holds Try.pinned (OpenSpec.ofChange lebsSpec)

/-- ITS FALSE NEIGHBOUR: 'it returns false'. Refute it at one input. -/
def lebsWrong : ChangeSpec := { name := "lebs", fn := fun _ => fun
  | [d1, d2, d3, d4] => { results := [.lit (.bool false)], args := [d1, d2, d3, d4] }
  | _ => none }
def LebsWrongFalsely : Prop := lebsRow.holds Try.pinned (OpenSpec.ofChange lebsWrong)

/-- 'peloruslaw12.LebBack': WHATEVER THE INPUT: true; the input reads as it did. -/
def lebBackSpec : ChangeSpec := { name := "lebBack", fn := fun _ => fun
  | [d1, d2, d3] => { results := [.lit (.bool true)], args := [d1, d2, d3] }
  | _ => none }
def lebBackRow : OpenClaim := { program := "ytflejniglhjbfaa", sum := "aad19d47e380bb0ffe9960445745fdb498ac8d7605dea58730144f668f3e1f00", func := "pelorus/peloruslaw12.LebBack", spec := "lebBack", apart := false }
def LebBackSaid : Prop := lebBackRow.holds Try.pinned (OpenSpec.ofChange lebBackSpec)

/-- ITS FALSE NEIGHBOUR: 'it returns false'. Refute it at one input. -/
def lebBackWrong : ChangeSpec := { name := "lebBack", fn := fun _ => fun
  | [d1, d2, d3] => { results := [.lit (.bool false)], args := [d1, d2, d3] }
  | _ => none }
def LebBackWrongFalsely : Prop := lebBackRow.holds Try.pinned (OpenSpec.ofChange lebBackWrong)

/-- 'peloruslaw12.LebSizes': WHATEVER THE INPUT: true; the input reads as it did. -/
def lebSizesSpec : ChangeSpec := { name := "lebSizes", fn := fun _ => fun
  | [d1, d2] => { results := [.lit (.bool true)], args := [d1, d2] }
  | _ => none }
def lebSizesRow : OpenClaim := { program := "ytflejniglhjbfaa", sum := "aad19d47e380bb0ffe9960445745fdb498ac8d7605dea58730144f668f3e1f00", func := "pelorus/peloruslaw12.LebSizes", spec := "lebSizes", apart := false }
def LebSizesSaid : Prop := lebSizesRow.holds Try.pinned (OpenSpec.ofChange lebSizesSpec)

/-- ITS FALSE NEIGHBOUR: 'it returns false'. Refute it at one input. -/
def lebSizesWrong : ChangeSpec := { name := "lebSizes", fn := fun _ => fun
  | [d1, d2] => { results := [.lit (.bool false)], args := [d1, d2] }
  | _ => none }
def LebSizesWrongFalsely : Prop := lebSizesRow.holds Try.pinned (OpenSpec.ofChange lebSizesWrong)

/-- 'peloruslaw12.LebSigned': WHATEVER THE INPUT: true; the input reads as it did. -/
def lebSignedSpec : ChangeSpec := { name := "lebSigned", fn := fun _ => fun
  | [d] => { results := [.lit (.bool true)], args := [d] }
  | _ => none }
def lebSignedRow : OpenClaim := { program := "ytflejniglhjbfaa", sum := "aad19d47e380bb0ffe9960445745fdb498ac8d7605dea58730144f668f3e1f00", func := "pelorus/peloruslaw12.LebSigned", spec := "lebSigned", apart := false }
def LebSignedSaid : Prop := lebSignedRow.holds Try.pinned (OpenSpec.ofChange lebSignedSpec)

/-- ITS FALSE NEIGHBOUR: 'it returns false'. Refute it at one input. -/
def lebSignedWrong : ChangeSpec := { name := "lebSigned", fn := fun _ => fun
  | [d] => { results := [.lit (.bool false)], args := [d] }
  | _ => none }
def LebSignedWrongFalsely : Prop := lebSignedRow.holds Try.pinned (OpenSpec.ofChange lebSignedWrong)

/-- 'peloruslaw12.LebRow': WHATEVER THE INPUT: true; the input reads as it did. -/
def lebRowSpec : ChangeSpec := { name := "lebRow", fn := fun _ => fun
  | [d] => { results := [.lit (.bool true)], args := [d] }
  | _ => none }
def lebRowRow : OpenClaim := { program := "ytflejniglhjbfaa", sum := "aad19d47e380bb0ffe9960445745fdb498ac8d7605dea58730144f668f3e1f00", func := "pelorus/peloruslaw12.LebRow", spec := "lebRow", apart := false }
def LebRowSaid : Prop := lebRowRow.holds Try.pinned (OpenSpec.ofChange lebRowSpec)

/-- ITS FALSE NEIGHBOUR: 'it returns false'. Refute it at one input. -/
def lebRowWrong : ChangeSpec := { name := "lebRow", fn := fun _ => fun
  | [d] => { results := [.lit (.bool false)], args := [d] }
  | _ => none }
def LebRowWrongFalsely : Prop := lebRowRow.holds Try.pinned (OpenSpec.ofChange lebRowWrong)

/-- 'peloruslaw12.LebLong': WHATEVER THE INPUT: true; the input reads as it did. -/
def lebLongSpec : ChangeSpec := { name := "lebLong", fn := fun _ => fun
  | [d1, d2] => { results := [.lit (.bool true)], args := [d1, d2] }
  | _ => none }
def lebLongRow : OpenClaim := { program := "ytflejniglhjbfaa", sum := "aad19d47e380bb0ffe9960445745fdb498ac8d7605dea58730144f668f3e1f00", func := "pelorus/peloruslaw12.LebLong", spec := "lebLong", apart := false }
def LebLongSaid : Prop := lebLongRow.holds Try.pinned (OpenSpec.ofChange lebLongSpec)

/-- ITS FALSE NEIGHBOUR: 'it returns false'. Refute it at one input. -/
def lebLongWrong : ChangeSpec := { name := "lebLong", fn := fun _ => fun
  | [d1, d2] => { results := [.lit (.bool false)], args := [d1, d2] }
  | _ => none }
def LebLongWrongFalsely : Prop := lebLongRow.holds Try.pinned (OpenSpec.ofChange lebLongWrong)

/- THE SECOND FORM. 'bulk': how many values and letters a reading holds, each counted each time it is reached (what is shared counts as often as it is met; a slice's spare places count too). A statement '..UptoSaid' is the law's where the arguments, and the package variables that the reading takes, are together of bulk at most 1048576: NARROWER than '..Said'. Prove '..Said' where nothing that the law and all that it calls make is longer than what came in: it says more and counts as full. Else prove '..UptoSaid'. A law counts once. -/
mutual
def uptoBulk {H : Type} : DataW H → Nat
  | .lit (.string bytes) => bytes.length + 1
  | .lit _ => 1
  | .nil => 1
  | .ptr d => uptoBulk d + 1
  | .slice elems spare => uptoBulkAll elems + uptoBulkAll spare + 1
  | .agg parts => uptoBulkAll parts + 1
  | .iface _ d => uptoBulk d + 1
  | .map entries => uptoBulkEntries entries + 1
  | .held _ => 1
def uptoBulkAll {H : Type} : List (DataW H) → Nat
  | [] => 0
  | d :: r => uptoBulk d + uptoBulkAll r
def uptoBulkEntries {H : Type} : List (Lit × DataW H) → Nat
  | [] => 0
  | x :: r => uptoBulkEntry x + uptoBulkEntries r
def uptoBulkEntry {H : Type} : Lit × DataW H → Nat
  | (.string bytes, d) => bytes.length + uptoBulk d + 1
  | (_, d) => uptoBulk d + 1
 end
def uptoSmall : (H : Type) → List (DataW H) → Bool := fun _ ds => decide (uptoBulkAll ds ≤ 1048576)
def OpenSpec.upto (s : _root_.Go.ChangeSpec) : _root_.Go.OpenSpec := { _root_.Go.OpenSpec.ofChange s with cond := some uptoSmall }

/-- 'peloruslaw12.Lebs', WHERE WHAT IT READS IS OF BULK AT MOST 1048576: true; the input reads as it did. -/
def lebsUptoRow : OpenClaim := { program := "ytflejniglhjbfaa", sum := "aad19d47e380bb0ffe9960445745fdb498ac8d7605dea58730144f668f3e1f00", func := "pelorus/peloruslaw12.Lebs", spec := "lebs", apart := false, narrowed := true }
def LebsUptoSaid : Prop := lebsUptoRow.holds Try.pinned (OpenSpec.upto lebsSpec)

/-- 'peloruslaw12.LebBack', WHERE WHAT IT READS IS OF BULK AT MOST 1048576: true; the input reads as it did. -/
def lebBackUptoRow : OpenClaim := { program := "ytflejniglhjbfaa", sum := "aad19d47e380bb0ffe9960445745fdb498ac8d7605dea58730144f668f3e1f00", func := "pelorus/peloruslaw12.LebBack", spec := "lebBack", apart := false, narrowed := true }
def LebBackUptoSaid : Prop := lebBackUptoRow.holds Try.pinned (OpenSpec.upto lebBackSpec)

/-- 'peloruslaw12.LebSizes', WHERE WHAT IT READS IS OF BULK AT MOST 1048576: true; the input reads as it did. -/
def lebSizesUptoRow : OpenClaim := { program := "ytflejniglhjbfaa", sum := "aad19d47e380bb0ffe9960445745fdb498ac8d7605dea58730144f668f3e1f00", func := "pelorus/peloruslaw12.LebSizes", spec := "lebSizes", apart := false, narrowed := true }
def LebSizesUptoSaid : Prop := lebSizesUptoRow.holds Try.pinned (OpenSpec.upto lebSizesSpec)

/-- 'peloruslaw12.LebSigned', WHERE WHAT IT READS IS OF BULK AT MOST 1048576: true; the input reads as it did. -/
def lebSignedUptoRow : OpenClaim := { program := "ytflejniglhjbfaa", sum := "aad19d47e380bb0ffe9960445745fdb498ac8d7605dea58730144f668f3e1f00", func := "pelorus/peloruslaw12.LebSigned", spec := "lebSigned", apart := false, narrowed := true }
def LebSignedUptoSaid : Prop := lebSignedUptoRow.holds Try.pinned (OpenSpec.upto lebSignedSpec)

/-- 'peloruslaw12.LebRow', WHERE WHAT IT READS IS OF BULK AT MOST 1048576: true; the input reads as it did. -/
def lebRowUptoRow : OpenClaim := { program := "ytflejniglhjbfaa", sum := "aad19d47e380bb0ffe9960445745fdb498ac8d7605dea58730144f668f3e1f00", func := "pelorus/peloruslaw12.LebRow", spec := "lebRow", apart := false, narrowed := true }
def LebRowUptoSaid : Prop := lebRowUptoRow.holds Try.pinned (OpenSpec.upto lebRowSpec)

/-- 'peloruslaw12.LebLong', WHERE WHAT IT READS IS OF BULK AT MOST 1048576: true; the input reads as it did. -/
def lebLongUptoRow : OpenClaim := { program := "ytflejniglhjbfaa", sum := "aad19d47e380bb0ffe9960445745fdb498ac8d7605dea58730144f668f3e1f00", func := "pelorus/peloruslaw12.LebLong", spec := "lebLong", apart := false, narrowed := true }
def LebLongUptoSaid : Prop := lebLongUptoRow.holds Try.pinned (OpenSpec.upto lebLongSpec)

end Rows
end Go.Proofs.Ytflejniglhjbfaa
