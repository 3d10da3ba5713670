/-
  NARROWER THAN 'FOR EVERY INPUT', by the rows' own cells (each row's printed sentence says how): Ftypes: loops · Consts: loops.
  DERIVED. THE GIVEN ROWS OF THIS SEAT. 9 by the template 'for every input the law returns true; each argument reads behind the call as it read before'; 0 by the template 'total and deterministic' (their statements: YtmofdpkddimmlaaTotals.lean).
  GIVEN WITH THE SEED: the statements are not yours to turn. If you find one false, say at which input.
  Laid BY PROGRAM, IN A SANDBOX (cutbox-rows.mjs): the forced cells as the released guide's own fill.sh prints them over the translation 0a3766958b9a84d2… (all of the seat's roots in one cut). By AI agents, Wed Nov 11 2026. No macro, syntax, notation, axiom, sorry.
-/
import Derived.Test.YtmofdpkddimmlaaChecked
import GoSem.Claim
import GoSem.ClaimJoined
import GoSem.ClaimMapViews
import Derived.JoinedTies
import Derived.KernelRfl
namespace Go.Proofs.Ytmofdpkddimmlaa
/- THE CELL 'sum', in the pinned program and in every row, IS THE sha256 OF THE DUMP (.gsa) THAT YtmofdpkddimmlaaProg.lean LOADS. Nothing in Lean hashes anything: it is a label: what it is worth is what the hold of that sum in a sandbox is worth. -/
noncomputable def Try.pinned : Pinned := { name := "ytmofdpkddimmlaa", sum := "0a3766958b9a84d2c4ea4892c9d28d3eff7e7731fed084ed28e057809b43682a", checked := Try.checked }
namespace Rows
def none {H : Type} : Left H := { results := [], args := [] }

/-- 'peloruslaw11.TraceActs': WHATEVER THE INPUT: true; the input reads as it did. -/
def traceActsSpec : ChangeSpec := { name := "traceActs", fn := fun _ => fun
  | [d1, d2] => { results := [.lit (.bool true)], args := [d1, d2] }
  | _ => none }
def traceActsRow : OpenClaim := { program := "ytmofdpkddimmlaa", sum := "0a3766958b9a84d2c4ea4892c9d28d3eff7e7731fed084ed28e057809b43682a", func := "pelorus/peloruslaw11.TraceActs", spec := "traceActs", unfollowed := true, recurses := true, apart := false }
def TraceActsSaid : Prop := traceActsRow.holds Try.pinned (OpenSpec.ofChange traceActsSpec)

/-- ITS FALSE NEIGHBOUR: 'it returns false'. Refute it at one input. -/
def traceActsWrong : ChangeSpec := { name := "traceActs", fn := fun _ => fun
  | [d1, d2] => { results := [.lit (.bool false)], args := [d1, d2] }
  | _ => none }
def TraceActsWrongFalsely : Prop := traceActsRow.holds Try.pinned (OpenSpec.ofChange traceActsWrong)

/-- 'peloruslaw11.TraceOrder': WHATEVER THE INPUT: true; the input reads as it did. -/
def traceOrderSpec : ChangeSpec := { name := "traceOrder", fn := fun _ => fun
  | [d1, d2] => { results := [.lit (.bool true)], args := [d1, d2] }
  | _ => none }
def traceOrderRow : OpenClaim := { program := "ytmofdpkddimmlaa", sum := "0a3766958b9a84d2c4ea4892c9d28d3eff7e7731fed084ed28e057809b43682a", func := "pelorus/peloruslaw11.TraceOrder", spec := "traceOrder", unfollowed := true, recurses := true, apart := false }
def TraceOrderSaid : Prop := traceOrderRow.holds Try.pinned (OpenSpec.ofChange traceOrderSpec)

/-- ITS FALSE NEIGHBOUR: 'it returns false'. Refute it at one input. -/
def traceOrderWrong : ChangeSpec := { name := "traceOrder", fn := fun _ => fun
  | [d1, d2] => { results := [.lit (.bool false)], args := [d1, d2] }
  | _ => none }
def TraceOrderWrongFalsely : Prop := traceOrderRow.holds Try.pinned (OpenSpec.ofChange traceOrderWrong)

/-- 'peloruslaw11.TraceTypes': WHATEVER THE INPUT: true; the input reads as it did. -/
def traceTypesSpec : ChangeSpec := { name := "traceTypes", fn := fun _ => fun
  | [d1, d2, d3] => { results := [.lit (.bool true)], args := [d1, d2, d3] }
  | _ => none }
def traceTypesRow : OpenClaim := { program := "ytmofdpkddimmlaa", sum := "0a3766958b9a84d2c4ea4892c9d28d3eff7e7731fed084ed28e057809b43682a", func := "pelorus/peloruslaw11.TraceTypes", spec := "traceTypes", unfollowed := true, recurses := true, apart := false }
def TraceTypesSaid : Prop := traceTypesRow.holds Try.pinned (OpenSpec.ofChange traceTypesSpec)

/-- ITS FALSE NEIGHBOUR: 'it returns false'. Refute it at one input. -/
def traceTypesWrong : ChangeSpec := { name := "traceTypes", fn := fun _ => fun
  | [d1, d2, d3] => { results := [.lit (.bool false)], args := [d1, d2, d3] }
  | _ => none }
def TraceTypesWrongFalsely : Prop := traceTypesRow.holds Try.pinned (OpenSpec.ofChange traceTypesWrong)

/-- 'peloruslaw17.Ftypes': WHATEVER THE INPUT: true; the input reads as it did. -/
def ftypesSpec : ChangeSpec := { name := "ftypes", fn := fun _ => fun
  | [d1, d2, d3, d4] => { results := [.lit (.bool true)], args := [d1, d2, d3, d4] }
  | _ => none }
def ftypesRow : OpenClaim := { program := "ytmofdpkddimmlaa", sum := "0a3766958b9a84d2c4ea4892c9d28d3eff7e7731fed084ed28e057809b43682a", func := "pelorus/peloruslaw17.Ftypes", spec := "ftypes", unfollowed := true, recurses := true, loops := true, apart := false }
def FtypesSaid : Prop := ftypesRow.holds Try.pinned (OpenSpec.ofChange ftypesSpec)

/-- ITS FALSE NEIGHBOUR: 'it returns false'. Refute it at one input. -/
def ftypesWrong : ChangeSpec := { name := "ftypes", fn := fun _ => fun
  | [d1, d2, d3, d4] => { results := [.lit (.bool false)], args := [d1, d2, d3, d4] }
  | _ => none }
def FtypesWrongFalsely : Prop := ftypesRow.holds Try.pinned (OpenSpec.ofChange ftypesWrong)

/-- 'peloruslaw17.FtypeImports': WHATEVER THE INPUT: true; the input reads as it did. -/
def ftypeImportsSpec : ChangeSpec := { name := "ftypeImports", fn := fun _ => fun
  | [d1, d2] => { results := [.lit (.bool true)], args := [d1, d2] }
  | _ => none }
def ftypeImportsRow : OpenClaim := { program := "ytmofdpkddimmlaa", sum := "0a3766958b9a84d2c4ea4892c9d28d3eff7e7731fed084ed28e057809b43682a", func := "pelorus/peloruslaw17.FtypeImports", spec := "ftypeImports", unfollowed := true, recurses := true, apart := false }
def FtypeImportsSaid : Prop := ftypeImportsRow.holds Try.pinned (OpenSpec.ofChange ftypeImportsSpec)

/-- ITS FALSE NEIGHBOUR: 'it returns false'. Refute it at one input. -/
def ftypeImportsWrong : ChangeSpec := { name := "ftypeImports", fn := fun _ => fun
  | [d1, d2] => { results := [.lit (.bool false)], args := [d1, d2] }
  | _ => none }
def FtypeImportsWrongFalsely : Prop := ftypeImportsRow.holds Try.pinned (OpenSpec.ofChange ftypeImportsWrong)

/-- 'peloruslaw17.FtypeMay': WHATEVER THE INPUT: true; the input reads as it did. -/
def ftypeMaySpec : ChangeSpec := { name := "ftypeMay", fn := fun _ => fun
  | [d1, d2, d3] => { results := [.lit (.bool true)], args := [d1, d2, d3] }
  | _ => none }
def ftypeMayRow : OpenClaim := { program := "ytmofdpkddimmlaa", sum := "0a3766958b9a84d2c4ea4892c9d28d3eff7e7731fed084ed28e057809b43682a", func := "pelorus/peloruslaw17.FtypeMay", spec := "ftypeMay", unfollowed := true, recurses := true, apart := false }
def FtypeMaySaid : Prop := ftypeMayRow.holds Try.pinned (OpenSpec.ofChange ftypeMaySpec)

/-- ITS FALSE NEIGHBOUR: 'it returns false'. Refute it at one input. -/
def ftypeMayWrong : ChangeSpec := { name := "ftypeMay", fn := fun _ => fun
  | [d1, d2, d3] => { results := [.lit (.bool false)], args := [d1, d2, d3] }
  | _ => none }
def FtypeMayWrongFalsely : Prop := ftypeMayRow.holds Try.pinned (OpenSpec.ofChange ftypeMayWrong)

/-- 'peloruslaw20.Consts': WHATEVER THE INPUT: true; the input reads as it did. -/
def constsSpec : ChangeSpec := { name := "consts", fn := fun _ => fun
  | [d1, d2, d3] => { results := [.lit (.bool true)], args := [d1, d2, d3] }
  | _ => none }
def constsRow : OpenClaim := { program := "ytmofdpkddimmlaa", sum := "0a3766958b9a84d2c4ea4892c9d28d3eff7e7731fed084ed28e057809b43682a", func := "pelorus/peloruslaw20.Consts", spec := "consts", unfollowed := true, recurses := true, loops := true, apart := false }
def ConstsSaid : Prop := constsRow.holds Try.pinned (OpenSpec.ofChange constsSpec)

/-- ITS FALSE NEIGHBOUR: 'it returns false'. Refute it at one input. -/
def constsWrong : ChangeSpec := { name := "consts", fn := fun _ => fun
  | [d1, d2, d3] => { results := [.lit (.bool false)], args := [d1, d2, d3] }
  | _ => none }
def ConstsWrongFalsely : Prop := constsRow.holds Try.pinned (OpenSpec.ofChange constsWrong)

/-- 'peloruslaw20.ConstOnes': WHATEVER THE INPUT: true; the input reads as it did. -/
def constOnesSpec : ChangeSpec := { name := "constOnes", fn := fun _ => fun
  | [d1, d2, d3] => { results := [.lit (.bool true)], args := [d1, d2, d3] }
  | _ => none }
def constOnesRow : OpenClaim := { program := "ytmofdpkddimmlaa", sum := "0a3766958b9a84d2c4ea4892c9d28d3eff7e7731fed084ed28e057809b43682a", func := "pelorus/peloruslaw20.ConstOnes", spec := "constOnes", unfollowed := true, recurses := true, apart := false }
def ConstOnesSaid : Prop := constOnesRow.holds Try.pinned (OpenSpec.ofChange constOnesSpec)

/-- ITS FALSE NEIGHBOUR: 'it returns false'. Refute it at one input. -/
def constOnesWrong : ChangeSpec := { name := "constOnes", fn := fun _ => fun
  | [d1, d2, d3] => { results := [.lit (.bool false)], args := [d1, d2, d3] }
  | _ => none }
def ConstOnesWrongFalsely : Prop := constOnesRow.holds Try.pinned (OpenSpec.ofChange constOnesWrong)

/-- 'peloruslaw20.ConstImports': WHATEVER THE INPUT: true; the input reads as it did. -/
def constImportsSpec : ChangeSpec := { name := "constImports", fn := fun _ => fun
  | [d1, d2, d3] => { results := [.lit (.bool true)], args := [d1, d2, d3] }
  | _ => none }
def constImportsRow : OpenClaim := { program := "ytmofdpkddimmlaa", sum := "0a3766958b9a84d2c4ea4892c9d28d3eff7e7731fed084ed28e057809b43682a", func := "pelorus/peloruslaw20.ConstImports", spec := "constImports", unfollowed := true, recurses := true, apart := false }
def ConstImportsSaid : Prop := constImportsRow.holds Try.pinned (OpenSpec.ofChange constImportsSpec)

/-- ITS FALSE NEIGHBOUR: 'it returns false'. Refute it at one input. -/
def constImportsWrong : ChangeSpec := { name := "constImports", fn := fun _ => fun
  | [d1, d2, d3] => { results := [.lit (.bool false)], args := [d1, d2, d3] }
  | _ => none }
def ConstImportsWrongFalsely : Prop := constImportsRow.holds Try.pinned (OpenSpec.ofChange constImportsWrong)

/- THE SECOND FORM. 'bulk': how many values and letters a reading holds, each counted each time it is reached (what is shared counts as often as it is met; a slice's spare places count too). A statement '..UptoSaid' is the law's where the arguments, and the package variables that the reading takes, are together of bulk at most 1048576: NARROWER than '..Said'. Prove '..Said' where nothing that the law and all that it calls make is longer than what came in: it says more and counts as full. Else prove '..UptoSaid'. A law counts once. -/
mutual
def uptoBulk {H : Type} : DataW H → Nat
  | .lit (.string bytes) => bytes.length + 1
  | .lit _ => 1
  | .nil => 1
  | .ptr d => uptoBulk d + 1
  | .slice elems spare => uptoBulkAll elems + uptoBulkAll spare + 1
  | .agg parts => uptoBulkAll parts + 1
  | .iface _ d => uptoBulk d + 1
  | .map entries => uptoBulkEntries entries + 1
  | .held _ => 1
def uptoBulkAll {H : Type} : List (DataW H) → Nat
  | [] => 0
  | d :: r => uptoBulk d + uptoBulkAll r
def uptoBulkEntries {H : Type} : List (Lit × DataW H) → Nat
  | [] => 0
  | x :: r => uptoBulkEntry x + uptoBulkEntries r
def uptoBulkEntry {H : Type} : Lit × DataW H → Nat
  | (.string bytes, d) => bytes.length + uptoBulk d + 1
  | (_, d) => uptoBulk d + 1
 end
def uptoSmall : (H : Type) → List (DataW H) → Bool := fun _ ds => decide (uptoBulkAll ds ≤ 1048576)
def OpenSpec.upto (s : _root_.Go.ChangeSpec) : _root_.Go.OpenSpec := { _root_.Go.OpenSpec.ofChange s with cond := some uptoSmall }

/-- 'peloruslaw11.TraceActs', WHERE WHAT IT READS IS OF BULK AT MOST 1048576: true; the input reads as it did. -/
def traceActsUptoRow : OpenClaim := { program := "ytmofdpkddimmlaa", sum := "0a3766958b9a84d2c4ea4892c9d28d3eff7e7731fed084ed28e057809b43682a", func := "pelorus/peloruslaw11.TraceActs", spec := "traceActs", unfollowed := true, recurses := true, apart := false, narrowed := true }
def TraceActsUptoSaid : Prop := traceActsUptoRow.holds Try.pinned (OpenSpec.upto traceActsSpec)

/-- 'peloruslaw11.TraceOrder', WHERE WHAT IT READS IS OF BULK AT MOST 1048576: true; the input reads as it did. -/
def traceOrderUptoRow : OpenClaim := { program := "ytmofdpkddimmlaa", sum := "0a3766958b9a84d2c4ea4892c9d28d3eff7e7731fed084ed28e057809b43682a", func := "pelorus/peloruslaw11.TraceOrder", spec := "traceOrder", unfollowed := true, recurses := true, apart := false, narrowed := true }
def TraceOrderUptoSaid : Prop := traceOrderUptoRow.holds Try.pinned (OpenSpec.upto traceOrderSpec)

/-- 'peloruslaw11.TraceTypes', WHERE WHAT IT READS IS OF BULK AT MOST 1048576: true; the input reads as it did. -/
def traceTypesUptoRow : OpenClaim := { program := "ytmofdpkddimmlaa", sum := "0a3766958b9a84d2c4ea4892c9d28d3eff7e7731fed084ed28e057809b43682a", func := "pelorus/peloruslaw11.TraceTypes", spec := "traceTypes", unfollowed := true, recurses := true, apart := false, narrowed := true }
def TraceTypesUptoSaid : Prop := traceTypesUptoRow.holds Try.pinned (OpenSpec.upto traceTypesSpec)

/-- 'peloruslaw17.Ftypes', WHERE WHAT IT READS IS OF BULK AT MOST 1048576: true; the input reads as it did. -/
def ftypesUptoRow : OpenClaim := { program := "ytmofdpkddimmlaa", sum := "0a3766958b9a84d2c4ea4892c9d28d3eff7e7731fed084ed28e057809b43682a", func := "pelorus/peloruslaw17.Ftypes", spec := "ftypes", unfollowed := true, recurses := true, loops := true, apart := false, narrowed := true }
def FtypesUptoSaid : Prop := ftypesUptoRow.holds Try.pinned (OpenSpec.upto ftypesSpec)

/-- 'peloruslaw17.FtypeImports', WHERE WHAT IT READS IS OF BULK AT MOST 1048576: true; the input reads as it did. -/
def ftypeImportsUptoRow : OpenClaim := { program := "ytmofdpkddimmlaa", sum := "0a3766958b9a84d2c4ea4892c9d28d3eff7e7731fed084ed28e057809b43682a", func := "pelorus/peloruslaw17.FtypeImports", spec := "ftypeImports", unfollowed := true, recurses := true, apart := false, narrowed := true }
def FtypeImportsUptoSaid : Prop := ftypeImportsUptoRow.holds Try.pinned (OpenSpec.upto ftypeImportsSpec)

/-- 'peloruslaw17.FtypeMay', WHERE WHAT IT READS IS OF BULK AT MOST 1048576: true; the input reads as it did. -/
def ftypeMayUptoRow : OpenClaim := { program := "ytmofdpkddimmlaa", sum := "0a3766958b9a84d2c4ea4892c9d28d3eff7e7731fed084ed28e057809b43682a", func := "pelorus/peloruslaw17.FtypeMay", spec := "ftypeMay", unfollowed := true, recurses := true, apart := false, narrowed := true }
def FtypeMayUptoSaid : Prop := ftypeMayUptoRow.holds Try.pinned (OpenSpec.upto ftypeMaySpec)

/-- 'peloruslaw20.Consts', WHERE WHAT IT READS IS OF BULK AT MOST 1048576: true; the input reads as it did. -/
def constsUptoRow : OpenClaim := { program := "ytmofdpkddimmlaa", sum := "0a3766958b9a84d2c4ea4892c9d28d3eff7e7731fed084ed28e057809b43682a", func := "pelorus/peloruslaw20.Consts", spec := "consts", unfollowed := true, recurses := true, loops := true, apart := false, narrowed := true }
def ConstsUptoSaid : Prop := constsUptoRow.holds Try.pinned (OpenSpec.upto constsSpec)

/-- 'peloruslaw20.ConstOnes', WHERE WHAT IT READS IS OF BULK AT MOST 1048576: true; the input reads as it did. -/
def constOnesUptoRow : OpenClaim := { program := "ytmofdpkddimmlaa", sum := "0a3766958b9a84d2c4ea4892c9d28d3eff7e7731fed084ed28e057809b43682a", func := "pelorus/peloruslaw20.ConstOnes", spec := "constOnes", unfollowed := true, recurses := true, apart := false, narrowed := true }
def ConstOnesUptoSaid : Prop := constOnesUptoRow.holds Try.pinned (OpenSpec.upto constOnesSpec)

/-- 'peloruslaw20.ConstImports', WHERE WHAT IT READS IS OF BULK AT MOST 1048576: true; the input reads as it did. -/
def constImportsUptoRow : OpenClaim := { program := "ytmofdpkddimmlaa", sum := "0a3766958b9a84d2c4ea4892c9d28d3eff7e7731fed084ed28e057809b43682a", func := "pelorus/peloruslaw20.ConstImports", spec := "constImports", unfollowed := true, recurses := true, apart := false, narrowed := true }
def ConstImportsUptoSaid : Prop := constImportsUptoRow.holds Try.pinned (OpenSpec.upto constImportsSpec)

end Rows
end Go.Proofs.Ytmofdpkddimmlaa
