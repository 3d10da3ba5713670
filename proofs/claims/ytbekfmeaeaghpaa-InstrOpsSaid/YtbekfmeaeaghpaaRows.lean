/-
  NARROWER THAN 'FOR EVERY INPUT', by the rows' own cells (each row's printed sentence says how): InstrPuts: loops · InstrBack: loops · InstrAlls: loops.
  DERIVED. THE GIVEN ROWS OF THIS SEAT. 10 by the template 'for every input the law returns true; each argument reads behind the call as it read before'; 0 by the template 'total and deterministic' (their statements: YtbekfmeaeaghpaaTotals.lean).
  GIVEN WITH THE SEED: the statements are not yours to turn. If you find one false, say at which input.
  Laid BY PROGRAM, IN A SANDBOX (cutbox-rows.mjs): the forced cells as the released guide's own fill.sh prints them over the translation 3d28514a550302cc… (all of the seat's roots in one cut). By AI agents, Wed Nov 11 2026. No macro, syntax, notation, axiom, sorry.
-/
import Derived.Test.YtbekfmeaeaghpaaChecked
import GoSem.Claim
import GoSem.ClaimJoined
import GoSem.ClaimMapViews
import Derived.JoinedTies
import Derived.KernelRfl
namespace Go.Proofs.Ytbekfmeaeaghpaa
/- THE CELL 'sum', in the pinned program and in every row, IS THE sha256 OF THE DUMP (.gsa) THAT YtbekfmeaeaghpaaProg.lean LOADS. Nothing in Lean hashes anything: it is a label: what it is worth is what the hold of that sum in a sandbox is worth. -/
noncomputable def Try.pinned : Pinned := { name := "ytbekfmeaeaghpaa", sum := "3d28514a550302cc45688baf2cefaabd1c11947c47129a74f677378f4eddf0f3", checked := Try.checked }
namespace Rows
def none {H : Type} : Left H := { results := [], args := [] }

/-- 'peloruslaw14.InstrPuts': WHATEVER THE INPUT: true; the input reads as it did. -/
def instrPutsSpec : ChangeSpec := { name := "instrPuts", fn := fun _ => fun
  | [d] => { results := [.lit (.bool true)], args := [d] }
  | _ => none }
def instrPutsRow : OpenClaim := { program := "ytbekfmeaeaghpaa", sum := "3d28514a550302cc45688baf2cefaabd1c11947c47129a74f677378f4eddf0f3", func := "pelorus/peloruslaw14.InstrPuts", spec := "instrPuts", inPlace := ["internal/abi.NoEscape"], unfollowed := true, recurses := true, loops := true, apart := false }
def InstrPutsSaid : Prop := instrPutsRow.holds Try.pinned (OpenSpec.ofChange instrPutsSpec)

/-- ITS FALSE NEIGHBOUR: 'it returns false'. Refute it at one input. -/
def instrPutsWrong : ChangeSpec := { name := "instrPuts", fn := fun _ => fun
  | [d] => { results := [.lit (.bool false)], args := [d] }
  | _ => none }
def InstrPutsWrongFalsely : Prop := instrPutsRow.holds Try.pinned (OpenSpec.ofChange instrPutsWrong)

/-- 'peloruslaw14.InstrGets': WHATEVER THE INPUT: true; the input reads as it did. -/
def instrGetsSpec : ChangeSpec := { name := "instrGets", fn := fun _ => fun
  | [d1, d2] => { results := [.lit (.bool true)], args := [d1, d2] }
  | _ => none }
def instrGetsRow : OpenClaim := { program := "ytbekfmeaeaghpaa", sum := "3d28514a550302cc45688baf2cefaabd1c11947c47129a74f677378f4eddf0f3", func := "pelorus/peloruslaw14.InstrGets", spec := "instrGets", inPlace := ["internal/abi.NoEscape"], unfollowed := true, recurses := true, apart := false }
def InstrGetsSaid : Prop := instrGetsRow.holds Try.pinned (OpenSpec.ofChange instrGetsSpec)

/-- ITS FALSE NEIGHBOUR: 'it returns false'. Refute it at one input. -/
def instrGetsWrong : ChangeSpec := { name := "instrGets", fn := fun _ => fun
  | [d1, d2] => { results := [.lit (.bool false)], args := [d1, d2] }
  | _ => none }
def InstrGetsWrongFalsely : Prop := instrGetsRow.holds Try.pinned (OpenSpec.ofChange instrGetsWrong)

/-- 'peloruslaw14.InstrBack': WHATEVER THE INPUT: true; the input reads as it did. -/
def instrBackSpec : ChangeSpec := { name := "instrBack", fn := fun _ => fun
  | [d1, d2, d3] => { results := [.lit (.bool true)], args := [d1, d2, d3] }
  | _ => none }
def instrBackRow : OpenClaim := { program := "ytbekfmeaeaghpaa", sum := "3d28514a550302cc45688baf2cefaabd1c11947c47129a74f677378f4eddf0f3", func := "pelorus/peloruslaw14.InstrBack", spec := "instrBack", inPlace := ["internal/abi.NoEscape"], unfollowed := true, recurses := true, loops := true, apart := false }
def InstrBackSaid : Prop := instrBackRow.holds Try.pinned (OpenSpec.ofChange instrBackSpec)

/-- ITS FALSE NEIGHBOUR: 'it returns false'. Refute it at one input. -/
def instrBackWrong : ChangeSpec := { name := "instrBack", fn := fun _ => fun
  | [d1, d2, d3] => { results := [.lit (.bool false)], args := [d1, d2, d3] }
  | _ => none }
def InstrBackWrongFalsely : Prop := instrBackRow.holds Try.pinned (OpenSpec.ofChange instrBackWrong)

/-- 'peloruslaw14.InstrNests': WHATEVER THE INPUT: true; the input reads as it did. -/
def instrNestsSpec : ChangeSpec := { name := "instrNests", fn := fun _ => fun
  | [d1, d2] => { results := [.lit (.bool true)], args := [d1, d2] }
  | _ => none }
def instrNestsRow : OpenClaim := { program := "ytbekfmeaeaghpaa", sum := "3d28514a550302cc45688baf2cefaabd1c11947c47129a74f677378f4eddf0f3", func := "pelorus/peloruslaw14.InstrNests", spec := "instrNests", inPlace := ["internal/abi.NoEscape"], unfollowed := true, recurses := true, apart := false }
def InstrNestsSaid : Prop := instrNestsRow.holds Try.pinned (OpenSpec.ofChange instrNestsSpec)

/-- ITS FALSE NEIGHBOUR: 'it returns false'. Refute it at one input. -/
def instrNestsWrong : ChangeSpec := { name := "instrNests", fn := fun _ => fun
  | [d1, d2] => { results := [.lit (.bool false)], args := [d1, d2] }
  | _ => none }
def InstrNestsWrongFalsely : Prop := instrNestsRow.holds Try.pinned (OpenSpec.ofChange instrNestsWrong)

/-- 'peloruslaw14.InstrOps': WHATEVER THE INPUT: true; the input reads as it did. -/
def instrOpsSpec : ChangeSpec := { name := "instrOps", fn := fun _ => fun
  | [d] => { results := [.lit (.bool true)], args := [d] }
  | _ => none }
def instrOpsRow : OpenClaim := { program := "ytbekfmeaeaghpaa", sum := "3d28514a550302cc45688baf2cefaabd1c11947c47129a74f677378f4eddf0f3", func := "pelorus/peloruslaw14.InstrOps", spec := "instrOps", inPlace := ["internal/abi.NoEscape"], unfollowed := true, recurses := true, apart := false }
def InstrOpsSaid : Prop := instrOpsRow.holds Try.pinned (OpenSpec.ofChange instrOpsSpec)

/-- ITS FALSE NEIGHBOUR: 'it returns false'. Refute it at one input. -/
def instrOpsWrong : ChangeSpec := { name := "instrOps", fn := fun _ => fun
  | [d] => { results := [.lit (.bool false)], args := [d] }
  | _ => none }
def InstrOpsWrongFalsely : Prop := instrOpsRow.holds Try.pinned (OpenSpec.ofChange instrOpsWrong)

/-- 'peloruslaw14.InstrFields': WHATEVER THE INPUT: true; the input reads as it did. -/
def instrFieldsSpec : ChangeSpec := { name := "instrFields", fn := fun _ => fun
  | [d1, d2] => { results := [.lit (.bool true)], args := [d1, d2] }
  | _ => none }
def instrFieldsRow : OpenClaim := { program := "ytbekfmeaeaghpaa", sum := "3d28514a550302cc45688baf2cefaabd1c11947c47129a74f677378f4eddf0f3", func := "pelorus/peloruslaw14.InstrFields", spec := "instrFields", inPlace := ["internal/abi.NoEscape"], unfollowed := true, recurses := true, apart := false }
def InstrFieldsSaid : Prop := instrFieldsRow.holds Try.pinned (OpenSpec.ofChange instrFieldsSpec)

/-- ITS FALSE NEIGHBOUR: 'it returns false'. Refute it at one input. -/
def instrFieldsWrong : ChangeSpec := { name := "instrFields", fn := fun _ => fun
  | [d1, d2] => { results := [.lit (.bool false)], args := [d1, d2] }
  | _ => none }
def InstrFieldsWrongFalsely : Prop := instrFieldsRow.holds Try.pinned (OpenSpec.ofChange instrFieldsWrong)

/-- 'peloruslaw14.InstrConsts': WHATEVER THE INPUT: true; the input reads as it did. -/
def instrConstsSpec : ChangeSpec := { name := "instrConsts", fn := fun _ => fun
  | [d] => { results := [.lit (.bool true)], args := [d] }
  | _ => none }
def instrConstsRow : OpenClaim := { program := "ytbekfmeaeaghpaa", sum := "3d28514a550302cc45688baf2cefaabd1c11947c47129a74f677378f4eddf0f3", func := "pelorus/peloruslaw14.InstrConsts", spec := "instrConsts", inPlace := ["internal/abi.NoEscape"], unfollowed := true, recurses := true, apart := false }
def InstrConstsSaid : Prop := instrConstsRow.holds Try.pinned (OpenSpec.ofChange instrConstsSpec)

/-- ITS FALSE NEIGHBOUR: 'it returns false'. Refute it at one input. -/
def instrConstsWrong : ChangeSpec := { name := "instrConsts", fn := fun _ => fun
  | [d] => { results := [.lit (.bool false)], args := [d] }
  | _ => none }
def InstrConstsWrongFalsely : Prop := instrConstsRow.holds Try.pinned (OpenSpec.ofChange instrConstsWrong)

/-- 'peloruslaw14.InstrLabels': WHATEVER THE INPUT: true; the input reads as it did. -/
def instrLabelsSpec : ChangeSpec := { name := "instrLabels", fn := fun _ => fun
  | [d] => { results := [.lit (.bool true)], args := [d] }
  | _ => none }
def instrLabelsRow : OpenClaim := { program := "ytbekfmeaeaghpaa", sum := "3d28514a550302cc45688baf2cefaabd1c11947c47129a74f677378f4eddf0f3", func := "pelorus/peloruslaw14.InstrLabels", spec := "instrLabels", inPlace := ["internal/abi.NoEscape"], unfollowed := true, recurses := true, apart := false }
def InstrLabelsSaid : Prop := instrLabelsRow.holds Try.pinned (OpenSpec.ofChange instrLabelsSpec)

/-- ITS FALSE NEIGHBOUR: 'it returns false'. Refute it at one input. -/
def instrLabelsWrong : ChangeSpec := { name := "instrLabels", fn := fun _ => fun
  | [d] => { results := [.lit (.bool false)], args := [d] }
  | _ => none }
def InstrLabelsWrongFalsely : Prop := instrLabelsRow.holds Try.pinned (OpenSpec.ofChange instrLabelsWrong)

/-- 'peloruslaw14.InstrElse': WHATEVER THE INPUT: true; the input reads as it did. -/
def instrElseSpec : ChangeSpec := { name := "instrElse", fn := fun _ => fun
  | [d] => { results := [.lit (.bool true)], args := [d] }
  | _ => none }
def instrElseRow : OpenClaim := { program := "ytbekfmeaeaghpaa", sum := "3d28514a550302cc45688baf2cefaabd1c11947c47129a74f677378f4eddf0f3", func := "pelorus/peloruslaw14.InstrElse", spec := "instrElse", inPlace := ["internal/abi.NoEscape"], unfollowed := true, recurses := true, apart := false }
def InstrElseSaid : Prop := instrElseRow.holds Try.pinned (OpenSpec.ofChange instrElseSpec)

/-- ITS FALSE NEIGHBOUR: 'it returns false'. Refute it at one input. -/
def instrElseWrong : ChangeSpec := { name := "instrElse", fn := fun _ => fun
  | [d] => { results := [.lit (.bool false)], args := [d] }
  | _ => none }
def InstrElseWrongFalsely : Prop := instrElseRow.holds Try.pinned (OpenSpec.ofChange instrElseWrong)

/-- 'peloruslaw14.InstrAlls': WHATEVER THE INPUT: true; the input reads as it did. -/
def instrAllsSpec : ChangeSpec := { name := "instrAlls", fn := fun _ => fun
  | [d1, d2] => { results := [.lit (.bool true)], args := [d1, d2] }
  | _ => none }
def instrAllsRow : OpenClaim := { program := "ytbekfmeaeaghpaa", sum := "3d28514a550302cc45688baf2cefaabd1c11947c47129a74f677378f4eddf0f3", func := "pelorus/peloruslaw14.InstrAlls", spec := "instrAlls", inPlace := ["internal/abi.NoEscape"], unfollowed := true, recurses := true, loops := true, apart := false }
def InstrAllsSaid : Prop := instrAllsRow.holds Try.pinned (OpenSpec.ofChange instrAllsSpec)

/-- ITS FALSE NEIGHBOUR: 'it returns false'. Refute it at one input. -/
def instrAllsWrong : ChangeSpec := { name := "instrAlls", fn := fun _ => fun
  | [d1, d2] => { results := [.lit (.bool false)], args := [d1, d2] }
  | _ => none }
def InstrAllsWrongFalsely : Prop := instrAllsRow.holds Try.pinned (OpenSpec.ofChange instrAllsWrong)

/- THE SECOND FORM. 'bulk': how many values and letters a reading holds, each counted each time it is reached (what is shared counts as often as it is met; a slice's spare places count too). A statement '..UptoSaid' is the law's where the arguments, and the package variables that the reading takes, are together of bulk at most 1048576: NARROWER than '..Said'. Prove '..Said' where nothing that the law and all that it calls make is longer than what came in: it says more and counts as full. Else prove '..UptoSaid'. A law counts once. -/
mutual
def uptoBulk {H : Type} : DataW H → Nat
  | .lit (.string bytes) => bytes.length + 1
  | .lit _ => 1
  | .nil => 1
  | .ptr d => uptoBulk d + 1
  | .slice elems spare => uptoBulkAll elems + uptoBulkAll spare + 1
  | .agg parts => uptoBulkAll parts + 1
  | .iface _ d => uptoBulk d + 1
  | .map entries => uptoBulkEntries entries + 1
  | .held _ => 1
def uptoBulkAll {H : Type} : List (DataW H) → Nat
  | [] => 0
  | d :: r => uptoBulk d + uptoBulkAll r
def uptoBulkEntries {H : Type} : List (Lit × DataW H) → Nat
  | [] => 0
  | x :: r => uptoBulkEntry x + uptoBulkEntries r
def uptoBulkEntry {H : Type} : Lit × DataW H → Nat
  | (.string bytes, d) => bytes.length + uptoBulk d + 1
  | (_, d) => uptoBulk d + 1
 end
def uptoSmall : (H : Type) → List (DataW H) → Bool := fun _ ds => decide (uptoBulkAll ds ≤ 1048576)
def OpenSpec.upto (s : _root_.Go.ChangeSpec) : _root_.Go.OpenSpec := { _root_.Go.OpenSpec.ofChange s with cond := some uptoSmall }

/-- 'peloruslaw14.InstrPuts', WHERE WHAT IT READS IS OF BULK AT MOST 1048576: true; the input reads as it did. -/
def instrPutsUptoRow : OpenClaim := { program := "ytbekfmeaeaghpaa", sum := "3d28514a550302cc45688baf2cefaabd1c11947c47129a74f677378f4eddf0f3", func := "pelorus/peloruslaw14.InstrPuts", spec := "instrPuts", inPlace := ["internal/abi.NoEscape"], unfollowed := true, recurses := true, loops := true, apart := false, narrowed := true }
def InstrPutsUptoSaid : Prop := instrPutsUptoRow.holds Try.pinned (OpenSpec.upto instrPutsSpec)

/-- 'peloruslaw14.InstrGets', WHERE WHAT IT READS IS OF BULK AT MOST 1048576: true; the input reads as it did. -/
def instrGetsUptoRow : OpenClaim := { program := "ytbekfmeaeaghpaa", sum := "3d28514a550302cc45688baf2cefaabd1c11947c47129a74f677378f4eddf0f3", func := "pelorus/peloruslaw14.InstrGets", spec := "instrGets", inPlace := ["internal/abi.NoEscape"], unfollowed := true, recurses := true, apart := false, narrowed := true }
def InstrGetsUptoSaid : Prop := instrGetsUptoRow.holds Try.pinned (OpenSpec.upto instrGetsSpec)

/-- 'peloruslaw14.InstrBack', WHERE WHAT IT READS IS OF BULK AT MOST 1048576: true; the input reads as it did. -/
def instrBackUptoRow : OpenClaim := { program := "ytbekfmeaeaghpaa", sum := "3d28514a550302cc45688baf2cefaabd1c11947c47129a74f677378f4eddf0f3", func := "pelorus/peloruslaw14.InstrBack", spec := "instrBack", inPlace := ["internal/abi.NoEscape"], unfollowed := true, recurses := true, loops := true, apart := false, narrowed := true }
def InstrBackUptoSaid : Prop := instrBackUptoRow.holds Try.pinned (OpenSpec.upto instrBackSpec)

/-- 'peloruslaw14.InstrNests', WHERE WHAT IT READS IS OF BULK AT MOST 1048576: true; the input reads as it did. -/
def instrNestsUptoRow : OpenClaim := { program := "ytbekfmeaeaghpaa", sum := "3d28514a550302cc45688baf2cefaabd1c11947c47129a74f677378f4eddf0f3", func := "pelorus/peloruslaw14.InstrNests", spec := "instrNests", inPlace := ["internal/abi.NoEscape"], unfollowed := true, recurses := true, apart := false, narrowed := true }
def InstrNestsUptoSaid : Prop := instrNestsUptoRow.holds Try.pinned (OpenSpec.upto instrNestsSpec)

/-- 'peloruslaw14.InstrOps', WHERE WHAT IT READS IS OF BULK AT MOST 1048576: true; the input reads as it did. -/
def instrOpsUptoRow : OpenClaim := { program := "ytbekfmeaeaghpaa", sum := "3d28514a550302cc45688baf2cefaabd1c11947c47129a74f677378f4eddf0f3", func := "pelorus/peloruslaw14.InstrOps", spec := "instrOps", inPlace := ["internal/abi.NoEscape"], unfollowed := true, recurses := true, apart := false, narrowed := true }
def InstrOpsUptoSaid : Prop := instrOpsUptoRow.holds Try.pinned (OpenSpec.upto instrOpsSpec)

/-- 'peloruslaw14.InstrFields', WHERE WHAT IT READS IS OF BULK AT MOST 1048576: true; the input reads as it did. -/
def instrFieldsUptoRow : OpenClaim := { program := "ytbekfmeaeaghpaa", sum := "3d28514a550302cc45688baf2cefaabd1c11947c47129a74f677378f4eddf0f3", func := "pelorus/peloruslaw14.InstrFields", spec := "instrFields", inPlace := ["internal/abi.NoEscape"], unfollowed := true, recurses := true, apart := false, narrowed := true }
def InstrFieldsUptoSaid : Prop := instrFieldsUptoRow.holds Try.pinned (OpenSpec.upto instrFieldsSpec)

/-- 'peloruslaw14.InstrConsts', WHERE WHAT IT READS IS OF BULK AT MOST 1048576: true; the input reads as it did. -/
def instrConstsUptoRow : OpenClaim := { program := "ytbekfmeaeaghpaa", sum := "3d28514a550302cc45688baf2cefaabd1c11947c47129a74f677378f4eddf0f3", func := "pelorus/peloruslaw14.InstrConsts", spec := "instrConsts", inPlace := ["internal/abi.NoEscape"], unfollowed := true, recurses := true, apart := false, narrowed := true }
def InstrConstsUptoSaid : Prop := instrConstsUptoRow.holds Try.pinned (OpenSpec.upto instrConstsSpec)

/-- 'peloruslaw14.InstrLabels', WHERE WHAT IT READS IS OF BULK AT MOST 1048576: true; the input reads as it did. -/
def instrLabelsUptoRow : OpenClaim := { program := "ytbekfmeaeaghpaa", sum := "3d28514a550302cc45688baf2cefaabd1c11947c47129a74f677378f4eddf0f3", func := "pelorus/peloruslaw14.InstrLabels", spec := "instrLabels", inPlace := ["internal/abi.NoEscape"], unfollowed := true, recurses := true, apart := false, narrowed := true }
def InstrLabelsUptoSaid : Prop := instrLabelsUptoRow.holds Try.pinned (OpenSpec.upto instrLabelsSpec)

/-- 'peloruslaw14.InstrElse', WHERE WHAT IT READS IS OF BULK AT MOST 1048576: true; the input reads as it did. -/
def instrElseUptoRow : OpenClaim := { program := "ytbekfmeaeaghpaa", sum := "3d28514a550302cc45688baf2cefaabd1c11947c47129a74f677378f4eddf0f3", func := "pelorus/peloruslaw14.InstrElse", spec := "instrElse", inPlace := ["internal/abi.NoEscape"], unfollowed := true, recurses := true, apart := false, narrowed := true }
def InstrElseUptoSaid : Prop := instrElseUptoRow.holds Try.pinned (OpenSpec.upto instrElseSpec)

/-- 'peloruslaw14.InstrAlls', WHERE WHAT IT READS IS OF BULK AT MOST 1048576: true; the input reads as it did. -/
def instrAllsUptoRow : OpenClaim := { program := "ytbekfmeaeaghpaa", sum := "3d28514a550302cc45688baf2cefaabd1c11947c47129a74f677378f4eddf0f3", func := "pelorus/peloruslaw14.InstrAlls", spec := "instrAlls", inPlace := ["internal/abi.NoEscape"], unfollowed := true, recurses := true, loops := true, apart := false, narrowed := true }
def InstrAllsUptoSaid : Prop := instrAllsUptoRow.holds Try.pinned (OpenSpec.upto instrAllsSpec)

end Rows
end Go.Proofs.Ytbekfmeaeaghpaa
