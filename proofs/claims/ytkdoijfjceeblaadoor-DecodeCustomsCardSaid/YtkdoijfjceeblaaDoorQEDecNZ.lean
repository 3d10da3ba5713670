/-
  What the claim leans on, cut to what is used (wip/tools/prune15.py): words, printed functions, walks.
-/
import Derived.Test.YtkdoijfjceeblaaDoorQEDecCust0
namespace Go.Proofs.YtkdoijfjceeblaaDoor.EDec
open Go Go.RowKit Go.Proofs.YtkdoijfjceeblaaDoor.F Go.Proofs.YtkdoijfjceeblaaDoorW.Hand Go.Proofs.YtkdoijfjceeblaaDoorW.PrintWords Go.Proofs.YtkdoijfjceeblaaDoorW.PrintLast Go.Proofs.YtkdoijfjceeblaaDoorW.PrintMore
open Go.Proofs.YtkdoijfjceeblaaDoor.LebGets (G)
open Go.Proofs.YtkdoijfjceeblaaDoor.ENames (Tabs tabs_below nget nmay)
open Go.Proofs.YtkdoijfjceeblaaDoor.EInstr (GRes pGet get_b ret_int wrap_bt)
set_option linter.unusedVariables false
set_option linter.unusedSimpArgs false
def NZ {α : Type} (r : Except Int α) : Prop := ∀ c, r = .error c → c ≠ 0
theorem nz_ok {α : Type} (x : α) : NZ (.ok x : Except Int α) := fun c h => by cases h
theorem nz_er {α : Type} {c : Int} (h : c ≠ 0) : NZ (.error c : Except Int α) := fun d e => by cases e; exact h
theorem nz_ite {α : Type} {q : Prop} [Decidable q] {a b : Except Int α} (ha : NZ a) (hb : NZ b) : NZ (if q then a else b) := by split; exact ha; exact hb
theorem nz_bnd {α β : Type} {r : PR α} {f : α → Int → PR β} (h : NZ r) (hf : ∀ x a, NZ (f x a)) : NZ (bnd r f) := by
 cases r with
 | ok x => exact hf x.1 x.2
 | error c =>
  intro d e
  have e2 : (Except.error c : Except Int (β × Int)) = .error d := e
  injection e2 with e3
  exact e3 ▸ h c rfl
theorem nz_oct (s : ByteArray) (a : Int) : NZ (dOct s a) := by
 unfold dOct
 repeat (first | exact nz_ok _ | exact nz_er (by decide) | apply nz_ite | apply nz_bnd | intro _ _)
theorem nz_num (s : ByteArray) (a : Int) : NZ (dNum s a) := by
 unfold dNum
 repeat (first | exact nz_ok _ | exact nz_er (by decide) | apply nz_oct | apply nz_ite | apply nz_bnd | intro _ _)
theorem nz_flag (s : ByteArray) (a : Int) : NZ (dFlag s a) := by
 unfold dFlag
 repeat (first | exact nz_ok _ | exact nz_er (by decide) | apply nz_oct | apply nz_num | apply nz_ite | apply nz_bnd | intro _ _)
theorem nz_exact (s : ByteArray) (x a : Int) : NZ (dExact s x a) := by
 unfold dExact
 repeat (first | exact nz_ok _ | exact nz_er (by decide) | apply nz_oct | apply nz_num | apply nz_flag | apply nz_ite | apply nz_bnd | intro _ _)
theorem nz_bytes (s : ByteArray) (n a : Int) : NZ (dBytes s n a) := by
 unfold dBytes
 repeat (first | exact nz_ok _ | exact nz_er (by decide) | apply nz_oct | apply nz_num | apply nz_flag | apply nz_exact | apply nz_ite | apply nz_bnd | intro _ _)
theorem nz_name (s : ByteArray) (a : Int) : NZ (dName s a) := by
 unfold dName
 repeat (first | exact nz_ok _ | exact nz_er (by decide) | apply nz_oct | apply nz_num | apply nz_flag | apply nz_exact | apply nz_bytes | apply nz_ite | apply nz_bnd | intro _ _)
theorem nz_value (s : ByteArray) (a : Int) : NZ (dValue s a) := by
 unfold dValue
 repeat (first | exact nz_ok _ | exact nz_er (by decide) | apply nz_oct | apply nz_num | apply nz_flag | apply nz_exact | apply nz_bytes | apply nz_name | apply nz_ite | apply nz_bnd | intro _ _)
theorem nz_limits (s : ByteArray) (a : Int) : NZ (dLimits s a) := by
 unfold dLimits
 repeat (first | exact nz_ok _ | exact nz_er (by decide) | apply nz_oct | apply nz_num | apply nz_flag | apply nz_exact | apply nz_bytes | apply nz_name | apply nz_value | apply nz_ite | apply nz_bnd | intro _ _)
theorem nz_instrs (s : ByteArray) (a : Int) : NZ (dInstrs s a) := by
 unfold dInstrs
 cases pGet s a with
 | ok x => exact nz_ok _
 | error c => repeat (first | exact nz_ok _ | exact nz_er (by decide) | apply nz_ite)
theorem nz_rep {α : Type} {f : Int → PR α} (hf : ∀ a, NZ (f a)) : ∀ (k : Nat) (a : Int), NZ (dRep f k a)
 | 0, a => nz_ok _
 | k + 1, a => nz_bnd (hf a) fun _ _ => nz_bnd (nz_rep hf k _) fun _ _ => nz_ok _
theorem nz_list {α : Type} {f : Int → PR α} (hf : ∀ a, NZ (f a)) (s : ByteArray) (m a : Int) : NZ (dList s m f a) := nz_bnd (nz_num s a) fun _ _ => nz_ite (nz_rep hf _ _) (nz_er (by decide))
theorem nz_nought (s : ByteArray) (a : Int) : NZ (dNought s a) := by
 unfold dNought
 repeat (first | exact nz_ok _ | exact nz_er (by decide) | apply nz_oct | apply nz_num | apply nz_flag | apply nz_exact | apply nz_bytes | apply nz_name | apply nz_value | apply nz_limits | apply nz_instrs | apply nz_ite | apply nz_bnd | intro _ _)
theorem nz_table (s : ByteArray) (a : Int) : NZ (dTable s a) := by
 unfold dTable
 repeat (first | exact nz_ok _ | exact nz_er (by decide) | apply nz_oct | apply nz_num | apply nz_flag | apply nz_exact | apply nz_bytes | apply nz_name | apply nz_value | apply nz_limits | apply nz_instrs | apply nz_nought | apply nz_ite | apply nz_bnd | intro _ _)
theorem nz_ftype (s : ByteArray) (a : Int) : NZ (dFuncType s a) := nz_bnd (nz_exact _ _ _) fun _ _ => nz_bnd (nz_list (nz_value s) _ _ _) fun _ _ => nz_bnd (nz_list (nz_value s) _ _ _) fun _ _ => nz_ok _
theorem nz_import (s : ByteArray) (a : Int) : NZ (dImport s a) := by
 unfold dImport
 repeat (first | exact nz_ok _ | exact nz_er (by decide) | apply nz_oct | apply nz_num | apply nz_flag | apply nz_exact | apply nz_bytes | apply nz_name | apply nz_value | apply nz_limits | apply nz_instrs | apply nz_nought | apply nz_table | apply nz_ite | apply nz_bnd | intro _ _)
theorem nz_global (s : ByteArray) (a : Int) : NZ (dGlobal s a) := by
 unfold dGlobal
 repeat (first | exact nz_ok _ | exact nz_er (by decide) | apply nz_oct | apply nz_num | apply nz_flag | apply nz_exact | apply nz_bytes | apply nz_name | apply nz_value | apply nz_limits | apply nz_instrs | apply nz_nought | apply nz_table | apply nz_import | apply nz_ite | apply nz_bnd | intro _ _)
theorem nz_export (s : ByteArray) (a : Int) : NZ (dExport s a) := by
 unfold dExport
 repeat (first | exact nz_ok _ | exact nz_er (by decide) | apply nz_oct | apply nz_num | apply nz_flag | apply nz_exact | apply nz_bytes | apply nz_name | apply nz_value | apply nz_limits | apply nz_instrs | apply nz_nought | apply nz_table | apply nz_import | apply nz_global | apply nz_ite | apply nz_bnd | intro _ _)
theorem nz_elem (s : ByteArray) (a : Int) : NZ (dElem s a) := nz_bnd (nz_nought _ _) fun _ _ => nz_bnd (nz_instrs _ _) fun _ _ => nz_bnd (nz_list (nz_num s) _ _ _) fun _ _ => nz_ok _
theorem nz_run (s : ByteArray) (ls : List Int) (a : Int) : NZ (dRun s ls a) := by
 unfold dRun
 repeat (first | exact nz_ok _ | exact nz_er (by decide) | apply nz_oct | apply nz_num | apply nz_flag | apply nz_exact | apply nz_bytes | apply nz_name | apply nz_value | apply nz_limits | apply nz_instrs | apply nz_nought | apply nz_table | apply nz_import | apply nz_global | apply nz_export | apply nz_ite | apply nz_bnd | intro _ _)
theorem nz_runs (s : ByteArray) : ∀ (k : Nat) (ls : List Int) (a : Int), NZ (dRuns s k ls a)
 | 0, ls, a => nz_ok _
 | k + 1, ls, a => nz_bnd (nz_run s ls a) fun _ _ => nz_runs s k _ _
theorem nz_code (s : ByteArray) (a : Int) : NZ (dCode s a) := by
 unfold dCode
 repeat (first | exact nz_ok _ | exact nz_er (by decide) | apply nz_oct | apply nz_num | apply nz_flag | apply nz_exact | apply nz_bytes | apply nz_name | apply nz_value | apply nz_limits | apply nz_instrs | apply nz_nought | apply nz_table | apply nz_import | apply nz_global | apply nz_export | apply nz_run | apply nz_runs | apply nz_ite | apply nz_bnd | intro _ _)
theorem nz_data (s : ByteArray) (a : Int) : NZ (dData s a) := by
 unfold dData
 repeat (first | exact nz_ok _ | exact nz_er (by decide) | apply nz_oct | apply nz_num | apply nz_flag | apply nz_exact | apply nz_bytes | apply nz_name | apply nz_value | apply nz_limits | apply nz_instrs | apply nz_nought | apply nz_table | apply nz_import | apply nz_global | apply nz_export | apply nz_run | apply nz_runs | apply nz_code | apply nz_ite | apply nz_bnd | intro _ _)
theorem nz_secA {α : Type} {s : ByteArray} {r : PR α} {f : α → Mod} (h : NZ r) : NZ (secA s r f) := by
 unfold secA
 cases r with
 | ok x => first | exact nz_ite (nz_ok _) (nz_er (by decide)) | (obtain ⟨x, a⟩ := x; exact nz_ite (nz_ok _) (nz_er (by decide)))
 | error c => exact nz_er (h c rfl)
theorem nz_sec (s : ByteArray) (id : Int) (m : Mod) : NZ (dSec s id m) := by
 unfold dSec
 refine nz_ite ?_ ?_
 ·cases h : dName s 0 with
  | ok x => exact nz_ok _
  | error c => exact nz_er (nz_name s 0 c h)
 ·repeat (first | exact nz_ok _ | exact nz_er (by decide) | exact nz_ite (nz_ok _) (nz_er (by decide)) | exact nz_secA (nz_list (nz_ftype s) _ _ _) | exact nz_secA (nz_list (nz_import s) _ _ _) | exact nz_secA (nz_list (nz_num s) _ _ _) | exact nz_secA (nz_list (nz_table s) _ _ _) | exact nz_secA (nz_list (nz_limits s) _ _ _) | exact nz_secA (nz_list (nz_global s) _ _ _) | exact nz_secA (nz_list (nz_export s) _ _ _) | exact nz_secA (nz_num s _) | exact nz_secA (nz_list (nz_elem s) _ _ _) | exact nz_secA (nz_list (nz_code s) _ _ _) | exact nz_secA (nz_list (nz_data s) _ _ _) | apply nz_ite)
theorem nz_fold : ∀ (xs : List Sec) (m : Mod), NZ (foldSec m xs)
 | [], m => nz_ok _
 | x :: xs, m => by
  unfold foldSec
  cases h : dSec x.2 x.1 m with
  | ok m1 => exact nz_fold xs m1
  | error c => exact nz_er (nz_sec _ _ _ c h)
theorem nz_heads : ∀ (k : Nat) (u : ByteArray) (last c : Int), (dHeads k u last).2 = some c → c ≠ 0
 | 0, u, last, c => fun h => by cases h
 | k + 1, u, last, c => fun h => by
  unfold dHeads at h
  split at h
  ·cases h
  ·split at h
   ·cases h; decide
   ·split at h
    ·cases h; decide
    ·split at h
     ·exact nz_heads k _ _ c h
     ·cases h; decide
theorem nz_mod (s : ByteArray) : NZ (dMod s) := by
 unfold dMod
 refine nz_ite (nz_er (by decide)) (nz_ite (nz_er (by decide)) ?_)
 cases h : foldSec m0 (dHeads (s.extract 8 s.size).size (s.extract 8 s.size) 0).1 with
 | error c => exact nz_er (nz_fold _ _ c h)
 | ok m =>
  cases h2 : (dHeads (s.extract 8 s.size).size (s.extract 8 s.size) 0).2 with
  | some c => exact nz_er (nz_heads _ _ _ c h2)
  | none => exact nz_ite (nz_ok _) (nz_er (by decide))
end Go.Proofs.YtkdoijfjceeblaaDoor.EDec
