/-
  No cell of these rows narrows 'for every input' (looked for: loops, veiled, ifaces, maps, wideKeys, modest, calm, conditions, laid).
  DERIVED. THE GIVEN ROWS OF THIS SEAT. 8 by the template 'for every input the law returns true; each argument reads behind the call as it read before'; 0 by the template 'total and deterministic' (their statements: YtddfoogbakiojaaTotals.lean).
  GIVEN WITH THE SEED: the statements are not yours to turn. If you find one false, say at which input.
  Laid BY PROGRAM, IN A SANDBOX (cutbox-rows.mjs): the forced cells as the released guide's own fill.sh prints them over the translation 1fe05b8ca43727c5… (all of the seat's roots in one cut). By AI agents, Wed Nov 11 2026. No macro, syntax, notation, axiom, sorry.
-/
import Derived.Test.YtddfoogbakiojaaChecked
import GoSem.Claim
import GoSem.ClaimJoined
import GoSem.ClaimMapViews
import Derived.JoinedTies
import Derived.KernelRfl
namespace Go.Proofs.Ytddfoogbakiojaa
/- THE CELL 'sum', in the pinned program and in every row, IS THE sha256 OF THE DUMP (.gsa) THAT YtddfoogbakiojaaProg.lean LOADS. Nothing in Lean hashes anything: it is a label: what it is worth is what the hold of that sum in a sandbox is worth. -/
noncomputable def Try.pinned : Pinned := { name := "ytddfoogbakiojaa", sum := "1fe05b8ca43727c5a1bb2b5208b84659ee7c5257a4742a846be816f5ee89d57a", checked := Try.checked }
namespace Rows
def none {H : Type} : Left H := { results := [], args := [] }

/-- 'peloruslaw0.PelorusNames': WHATEVER THE INPUT: true; the input reads as it did. -/
def pelorusNamesSpec : ChangeSpec := { name := "pelorusNames", fn := fun _ => fun
  | [] => { results := [.lit (.bool true)], args := [] }
  | _ => none }
def pelorusNamesRow : OpenClaim := { program := "ytddfoogbakiojaa", sum := "1fe05b8ca43727c5a1bb2b5208b84659ee7c5257a4742a846be816f5ee89d57a", func := "pelorus/peloruslaw0.PelorusNames", spec := "pelorusNames", apart := false }
def PelorusNamesSaid : Prop := pelorusNamesRow.holds Try.pinned (OpenSpec.ofChange pelorusNamesSpec)

/-- ITS FALSE NEIGHBOUR: 'it returns false'. Refute it at one input. -/
def pelorusNamesWrong : ChangeSpec := { name := "pelorusNames", fn := fun _ => fun
  | [] => { results := [.lit (.bool false)], args := [] }
  | _ => none }
def PelorusNamesWrongFalsely : Prop := pelorusNamesRow.holds Try.pinned (OpenSpec.ofChange pelorusNamesWrong)

/-- 'peloruslaw10.GlobalTypes': WHATEVER THE INPUT: true; the input reads as it did. -/
def globalTypesSpec : ChangeSpec := { name := "globalTypes", fn := fun _ => fun
  | [d1, d2, d3, d4] => { results := [.lit (.bool true)], args := [d1, d2, d3, d4] }
  | _ => none }
def globalTypesRow : OpenClaim := { program := "ytddfoogbakiojaa", sum := "1fe05b8ca43727c5a1bb2b5208b84659ee7c5257a4742a846be816f5ee89d57a", func := "pelorus/peloruslaw10.GlobalTypes", spec := "globalTypes", apart := false }
def GlobalTypesSaid : Prop := globalTypesRow.holds Try.pinned (OpenSpec.ofChange globalTypesSpec)

/-- ITS FALSE NEIGHBOUR: 'it returns false'. Refute it at one input. -/
def globalTypesWrong : ChangeSpec := { name := "globalTypes", fn := fun _ => fun
  | [d1, d2, d3, d4] => { results := [.lit (.bool false)], args := [d1, d2, d3, d4] }
  | _ => none }
def GlobalTypesWrongFalsely : Prop := globalTypesRow.holds Try.pinned (OpenSpec.ofChange globalTypesWrong)

/-- 'peloruslaw10.GlobalActs': WHATEVER THE INPUT: true; the input reads as it did. -/
def globalActsSpec : ChangeSpec := { name := "globalActs", fn := fun _ => fun
  | [d] => { results := [.lit (.bool true)], args := [d] }
  | _ => none }
def globalActsRow : OpenClaim := { program := "ytddfoogbakiojaa", sum := "1fe05b8ca43727c5a1bb2b5208b84659ee7c5257a4742a846be816f5ee89d57a", func := "pelorus/peloruslaw10.GlobalActs", spec := "globalActs", apart := false }
def GlobalActsSaid : Prop := globalActsRow.holds Try.pinned (OpenSpec.ofChange globalActsSpec)

/-- ITS FALSE NEIGHBOUR: 'it returns false'. Refute it at one input. -/
def globalActsWrong : ChangeSpec := { name := "globalActs", fn := fun _ => fun
  | [d] => { results := [.lit (.bool false)], args := [d] }
  | _ => none }
def GlobalActsWrongFalsely : Prop := globalActsRow.holds Try.pinned (OpenSpec.ofChange globalActsWrong)

/-- 'peloruslaw10.GlobalFull': WHATEVER THE INPUT: true; the input reads as it did. -/
def globalFullSpec : ChangeSpec := { name := "globalFull", fn := fun _ => fun
  | [d1, d2] => { results := [.lit (.bool true)], args := [d1, d2] }
  | _ => none }
def globalFullRow : OpenClaim := { program := "ytddfoogbakiojaa", sum := "1fe05b8ca43727c5a1bb2b5208b84659ee7c5257a4742a846be816f5ee89d57a", func := "pelorus/peloruslaw10.GlobalFull", spec := "globalFull", apart := false }
def GlobalFullSaid : Prop := globalFullRow.holds Try.pinned (OpenSpec.ofChange globalFullSpec)

/-- ITS FALSE NEIGHBOUR: 'it returns false'. Refute it at one input. -/
def globalFullWrong : ChangeSpec := { name := "globalFull", fn := fun _ => fun
  | [d1, d2] => { results := [.lit (.bool false)], args := [d1, d2] }
  | _ => none }
def GlobalFullWrongFalsely : Prop := globalFullRow.holds Try.pinned (OpenSpec.ofChange globalFullWrong)

/-- 'peloruslaw27.Diffs': WHATEVER THE INPUT: true; the input reads as it did. -/
def diffsSpec : ChangeSpec := { name := "diffs", fn := fun _ => fun
  | [d1, d2] => { results := [.lit (.bool true)], args := [d1, d2] }
  | _ => none }
def diffsRow : OpenClaim := { program := "ytddfoogbakiojaa", sum := "1fe05b8ca43727c5a1bb2b5208b84659ee7c5257a4742a846be816f5ee89d57a", func := "pelorus/peloruslaw27.Diffs", spec := "diffs", unfollowed := true, recurses := true, apart := false }
def DiffsSaid : Prop := diffsRow.holds Try.pinned (OpenSpec.ofChange diffsSpec)

/-- ITS FALSE NEIGHBOUR: 'it returns false'. Refute it at one input. -/
def diffsWrong : ChangeSpec := { name := "diffs", fn := fun _ => fun
  | [d1, d2] => { results := [.lit (.bool false)], args := [d1, d2] }
  | _ => none }
def DiffsWrongFalsely : Prop := diffsRow.holds Try.pinned (OpenSpec.ofChange diffsWrong)

/-- 'peloruslaw27.ObsValues': WHATEVER THE INPUT: true; the input reads as it did. -/
def obsValuesSpec : ChangeSpec := { name := "obsValues", fn := fun _ => fun
  | [d1, d2] => { results := [.lit (.bool true)], args := [d1, d2] }
  | _ => none }
def obsValuesRow : OpenClaim := { program := "ytddfoogbakiojaa", sum := "1fe05b8ca43727c5a1bb2b5208b84659ee7c5257a4742a846be816f5ee89d57a", func := "pelorus/peloruslaw27.ObsValues", spec := "obsValues", unfollowed := true, recurses := true, apart := false }
def ObsValuesSaid : Prop := obsValuesRow.holds Try.pinned (OpenSpec.ofChange obsValuesSpec)

/-- ITS FALSE NEIGHBOUR: 'it returns false'. Refute it at one input. -/
def obsValuesWrong : ChangeSpec := { name := "obsValues", fn := fun _ => fun
  | [d1, d2] => { results := [.lit (.bool false)], args := [d1, d2] }
  | _ => none }
def ObsValuesWrongFalsely : Prop := obsValuesRow.holds Try.pinned (OpenSpec.ofChange obsValuesWrong)

/-- 'peloruslaw27.DiffOne': WHATEVER THE INPUT: true; the input reads as it did. -/
def diffOneSpec : ChangeSpec := { name := "diffOne", fn := fun _ => fun
  | [d1, d2] => { results := [.lit (.bool true)], args := [d1, d2] }
  | _ => none }
def diffOneRow : OpenClaim := { program := "ytddfoogbakiojaa", sum := "1fe05b8ca43727c5a1bb2b5208b84659ee7c5257a4742a846be816f5ee89d57a", func := "pelorus/peloruslaw27.DiffOne", spec := "diffOne", unfollowed := true, recurses := true, apart := false }
def DiffOneSaid : Prop := diffOneRow.holds Try.pinned (OpenSpec.ofChange diffOneSpec)

/-- ITS FALSE NEIGHBOUR: 'it returns false'. Refute it at one input. -/
def diffOneWrong : ChangeSpec := { name := "diffOne", fn := fun _ => fun
  | [d1, d2] => { results := [.lit (.bool false)], args := [d1, d2] }
  | _ => none }
def DiffOneWrongFalsely : Prop := diffOneRow.holds Try.pinned (OpenSpec.ofChange diffOneWrong)

/-- 'peloruslaw27.DiffFirst': WHATEVER THE INPUT: true; the input reads as it did. -/
def diffFirstSpec : ChangeSpec := { name := "diffFirst", fn := fun _ => fun
  | [d1, d2] => { results := [.lit (.bool true)], args := [d1, d2] }
  | _ => none }
def diffFirstRow : OpenClaim := { program := "ytddfoogbakiojaa", sum := "1fe05b8ca43727c5a1bb2b5208b84659ee7c5257a4742a846be816f5ee89d57a", func := "pelorus/peloruslaw27.DiffFirst", spec := "diffFirst", unfollowed := true, recurses := true, apart := false }
def DiffFirstSaid : Prop := diffFirstRow.holds Try.pinned (OpenSpec.ofChange diffFirstSpec)

/-- ITS FALSE NEIGHBOUR: 'it returns false'. Refute it at one input. -/
def diffFirstWrong : ChangeSpec := { name := "diffFirst", fn := fun _ => fun
  | [d1, d2] => { results := [.lit (.bool false)], args := [d1, d2] }
  | _ => none }
def DiffFirstWrongFalsely : Prop := diffFirstRow.holds Try.pinned (OpenSpec.ofChange diffFirstWrong)

/- THE SECOND FORM. 'bulk': how many values and letters a reading holds, each counted each time it is reached (what is shared counts as often as it is met; a slice's spare places count too). A statement '..UptoSaid' is the law's where the arguments, and the package variables that the reading takes, are together of bulk at most 1048576: NARROWER than '..Said'. Prove '..Said' where nothing that the law and all that it calls make is longer than what came in: it says more and counts as full. Else prove '..UptoSaid'. A law counts once. -/
mutual
def uptoBulk {H : Type} : DataW H → Nat
  | .lit (.string bytes) => bytes.length + 1
  | .lit _ => 1
  | .nil => 1
  | .ptr d => uptoBulk d + 1
  | .slice elems spare => uptoBulkAll elems + uptoBulkAll spare + 1
  | .agg parts => uptoBulkAll parts + 1
  | .iface _ d => uptoBulk d + 1
  | .map entries => uptoBulkEntries entries + 1
  | .held _ => 1
def uptoBulkAll {H : Type} : List (DataW H) → Nat
  | [] => 0
  | d :: r => uptoBulk d + uptoBulkAll r
def uptoBulkEntries {H : Type} : List (Lit × DataW H) → Nat
  | [] => 0
  | x :: r => uptoBulkEntry x + uptoBulkEntries r
def uptoBulkEntry {H : Type} : Lit × DataW H → Nat
  | (.string bytes, d) => bytes.length + uptoBulk d + 1
  | (_, d) => uptoBulk d + 1
 end
def uptoSmall : (H : Type) → List (DataW H) → Bool := fun _ ds => decide (uptoBulkAll ds ≤ 1048576)
def OpenSpec.upto (s : _root_.Go.ChangeSpec) : _root_.Go.OpenSpec := { _root_.Go.OpenSpec.ofChange s with cond := some uptoSmall }

/-- 'peloruslaw0.PelorusNames', WHERE WHAT IT READS IS OF BULK AT MOST 1048576: true; the input reads as it did. -/
def pelorusNamesUptoRow : OpenClaim := { program := "ytddfoogbakiojaa", sum := "1fe05b8ca43727c5a1bb2b5208b84659ee7c5257a4742a846be816f5ee89d57a", func := "pelorus/peloruslaw0.PelorusNames", spec := "pelorusNames", apart := false, narrowed := true }
def PelorusNamesUptoSaid : Prop := pelorusNamesUptoRow.holds Try.pinned (OpenSpec.upto pelorusNamesSpec)

/-- 'peloruslaw10.GlobalTypes', WHERE WHAT IT READS IS OF BULK AT MOST 1048576: true; the input reads as it did. -/
def globalTypesUptoRow : OpenClaim := { program := "ytddfoogbakiojaa", sum := "1fe05b8ca43727c5a1bb2b5208b84659ee7c5257a4742a846be816f5ee89d57a", func := "pelorus/peloruslaw10.GlobalTypes", spec := "globalTypes", apart := false, narrowed := true }
def GlobalTypesUptoSaid : Prop := globalTypesUptoRow.holds Try.pinned (OpenSpec.upto globalTypesSpec)

/-- 'peloruslaw10.GlobalActs', WHERE WHAT IT READS IS OF BULK AT MOST 1048576: true; the input reads as it did. -/
def globalActsUptoRow : OpenClaim := { program := "ytddfoogbakiojaa", sum := "1fe05b8ca43727c5a1bb2b5208b84659ee7c5257a4742a846be816f5ee89d57a", func := "pelorus/peloruslaw10.GlobalActs", spec := "globalActs", apart := false, narrowed := true }
def GlobalActsUptoSaid : Prop := globalActsUptoRow.holds Try.pinned (OpenSpec.upto globalActsSpec)

/-- 'peloruslaw10.GlobalFull', WHERE WHAT IT READS IS OF BULK AT MOST 1048576: true; the input reads as it did. -/
def globalFullUptoRow : OpenClaim := { program := "ytddfoogbakiojaa", sum := "1fe05b8ca43727c5a1bb2b5208b84659ee7c5257a4742a846be816f5ee89d57a", func := "pelorus/peloruslaw10.GlobalFull", spec := "globalFull", apart := false, narrowed := true }
def GlobalFullUptoSaid : Prop := globalFullUptoRow.holds Try.pinned (OpenSpec.upto globalFullSpec)

/-- 'peloruslaw27.Diffs', WHERE WHAT IT READS IS OF BULK AT MOST 1048576: true; the input reads as it did. -/
def diffsUptoRow : OpenClaim := { program := "ytddfoogbakiojaa", sum := "1fe05b8ca43727c5a1bb2b5208b84659ee7c5257a4742a846be816f5ee89d57a", func := "pelorus/peloruslaw27.Diffs", spec := "diffs", unfollowed := true, recurses := true, apart := false, narrowed := true }
def DiffsUptoSaid : Prop := diffsUptoRow.holds Try.pinned (OpenSpec.upto diffsSpec)

/-- 'peloruslaw27.ObsValues', WHERE WHAT IT READS IS OF BULK AT MOST 1048576: true; the input reads as it did. -/
def obsValuesUptoRow : OpenClaim := { program := "ytddfoogbakiojaa", sum := "1fe05b8ca43727c5a1bb2b5208b84659ee7c5257a4742a846be816f5ee89d57a", func := "pelorus/peloruslaw27.ObsValues", spec := "obsValues", unfollowed := true, recurses := true, apart := false, narrowed := true }
def ObsValuesUptoSaid : Prop := obsValuesUptoRow.holds Try.pinned (OpenSpec.upto obsValuesSpec)

/-- 'peloruslaw27.DiffOne', WHERE WHAT IT READS IS OF BULK AT MOST 1048576: true; the input reads as it did. -/
def diffOneUptoRow : OpenClaim := { program := "ytddfoogbakiojaa", sum := "1fe05b8ca43727c5a1bb2b5208b84659ee7c5257a4742a846be816f5ee89d57a", func := "pelorus/peloruslaw27.DiffOne", spec := "diffOne", unfollowed := true, recurses := true, apart := false, narrowed := true }
def DiffOneUptoSaid : Prop := diffOneUptoRow.holds Try.pinned (OpenSpec.upto diffOneSpec)

/-- 'peloruslaw27.DiffFirst', WHERE WHAT IT READS IS OF BULK AT MOST 1048576: true; the input reads as it did. -/
def diffFirstUptoRow : OpenClaim := { program := "ytddfoogbakiojaa", sum := "1fe05b8ca43727c5a1bb2b5208b84659ee7c5257a4742a846be816f5ee89d57a", func := "pelorus/peloruslaw27.DiffFirst", spec := "diffFirst", unfollowed := true, recurses := true, apart := false, narrowed := true }
def DiffFirstUptoSaid : Prop := diffFirstUptoRow.holds Try.pinned (OpenSpec.upto diffFirstSpec)

end Rows
end Go.Proofs.Ytddfoogbakiojaa
