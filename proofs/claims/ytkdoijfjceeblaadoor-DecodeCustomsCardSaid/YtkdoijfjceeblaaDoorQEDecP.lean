/-
  What the claim leans on, cut to what is used (wip/tools/prune15.py): words, printed functions, walks.
-/
import Derived.Test.YtkdoijfjceeblaaDoorQEDecS
namespace Go.Proofs.YtkdoijfjceeblaaDoor.EDec
open Go Go.RowKit Go.Proofs.YtkdoijfjceeblaaDoor.F Go.Proofs.YtkdoijfjceeblaaDoorW.Hand Go.Proofs.YtkdoijfjceeblaaDoorW.PrintWords Go.Proofs.YtkdoijfjceeblaaDoorW.PrintLast Go.Proofs.YtkdoijfjceeblaaDoorW.PrintMore
open Go.Proofs.YtkdoijfjceeblaaDoor.LebGets (G)
open Go.Proofs.YtkdoijfjceeblaaDoor.ENames (Tabs tabs_below nget nmay)
open Go.Proofs.YtkdoijfjceeblaaDoor.EInstr (GRes pGet get_b ret_int wrap_bt)
set_option linter.unusedVariables false
set_option linter.unusedSimpArgs false
open Go.Proofs.YtkdoijfjceeblaaDoor.LebMath (U)
open Go.Proofs.YtkdoijfjceeblaaDoor.LebBacks (At nth USpec at_mid get_u len_u32 bt_append bt_str)
theorem lebS_get {p q : ByteArray} {x : Int} (h0 : 0 ≤ x) (h1 : x < 4294967296) (hz : (p ++ lebS x ++ q).size ≤ 140737488355328) : G (p ++ lebS x ++ q) p.size 32 = (x, (p.size : Int) + (lebS x).size, 0) := by
 have e : x % 18446744073709551616 = x := Int.emod_eq_of_lt h0 (by omega)
 have hu := (LebBacks.U9 x h0 (by omega)).1
 have hA : At (p ++ lebS x ++ q) p.size (U 9 x) := by
  have := at_mid p q (U 9 x) hu.range (by rw [lebS, e] at hz; exact hz)
  rw [lebS, e]; exact this
 rw [get_u hA hu (.inl ⟨rfl, h1⟩) (len_u32 hu h1), show wrap64 x = x by unfold wrap64; omega, lebS, e, str_size]
theorem ext_out (p : ByteArray) (i j : Nat) (h : p.size ≤ i) : p.extract i j = ⟨#[]⟩ := by
 apply ByteArray.ext
 apply Array.ext
 ·have : p.data.size = p.size := rfl
  simp only [ByteArray.data_extract, Array.size_extract]
  simp; omega
 ·intro k h1 h2; simp at h2
theorem ext_all (p : ByteArray) (j : Nat) (h : p.size ≤ j) : p.extract 0 j = p := by
 apply ByteArray.ext
 have e : p.data.size = p.size := rfl
 simp only [ByteArray.data_extract]
 apply Array.ext
 ·simp only [Array.size_extract]; omega
 ·intro k h1 h2; simp
theorem nil_app (q : ByteArray) : (⟨#[]⟩ : ByteArray) ++ q = q := ByteArray.empty_append
theorem app_nil (q : ByteArray) : q ++ (⟨#[]⟩ : ByteArray) = q := ByteArray.append_empty
theorem ext_mid (p b q : ByteArray) : (p ++ b ++ q).extract p.size (p.size + b.size) = b := by
 rw [ByteArray.append_assoc, ByteArray.extract_append, ext_out p _ _ (Nat.le_refl _), nil_app, ByteArray.extract_append, Nat.sub_self, show p.size + b.size - p.size = b.size by omega, ext_all b _ (Nat.le_refl _), Nat.sub_self, Nat.zero_sub]
 have h : q.extract 0 0 = ⟨#[]⟩ := by
  apply ByteArray.ext; simp
 rw [h, app_nil]
theorem ext_end (p q : ByteArray) : (p ++ q).extract p.size (p ++ q).size = q := by
 rw [ByteArray.extract_append, ext_out p _ _ (Nat.le_refl _), nil_app, Nat.sub_self, ByteArray.size_append, show p.size + q.size - p.size = q.size by omega, ext_all q _ (Nat.le_refl _)]
theorem bt_head (k : Int) (r : ByteArray) (hk : 0 ≤ k ∧ k < 256) : bt (strOfNums [k % 256] ++ r) 0 = k := by
 have e : k % 256 = k := Int.emod_eq_of_lt hk.1 hk.2
 have h := bt_append (strOfNums [k % 256]) r 0
 rw [if_pos (by rw [str_size]; simp)] at h
 rw [e] at h ⊢
 exact h.trans (bt_str [k] 0 hk)
theorem heads_cons {k last : Int} {b rest : ByteArray} (hk : 0 ≤ k ∧ k ≤ 11) (hl : k = 0 ∨ last < k) (hz : (secS k b ++ rest).size ≤ 140737488355328) (hb : b.size < 4294967296) (n : Nat) :
  dHeads (n + 1) (secS k b ++ rest) last = ((k, b) :: (dHeads n rest (max last k)).1, (dHeads n rest (max last k)).2) := by
 have z1 : (strOfNums [k % 256]).size = 1 := str_size _
 have e0 : secS k b ++ rest = strOfNums [k % 256] ++ (lebS b.size ++ b ++ rest) := by simp only [secS, ByteArray.append_assoc]
 have e1 : secS k b ++ rest = strOfNums [k % 256] ++ lebS b.size ++ (b ++ rest) := by simp only [secS, ByteArray.append_assoc]
 have e2 : secS k b ++ rest = (strOfNums [k % 256] ++ lebS b.size) ++ b ++ rest := by simp only [secS, ByteArray.append_assoc]
 have hb0 : bt (secS k b ++ rest) 0 = k := by rw [e0]; exact bt_head k _ ⟨hk.1, by omega⟩
 have hG : G (secS k b ++ rest) 1 32 = ((b.size : Int), 1 + ((lebS b.size).size : Int), 0) := by
  rw [e1] at hz ⊢
  have := lebS_get (p := strOfNums [k % 256]) (q := b ++ rest) (x := (b.size : Int)) (by omega) (by omega) hz
  rw [z1] at this
  exact this
 have zz : (secS k b ++ rest).size = 1 + (lebS b.size).size + b.size + rest.size := by rw [e2]; simp only [ByteArray.size_append, z1]
 have x1 : (secS k b ++ rest).extract (1 + (lebS b.size).size) (1 + (lebS b.size).size + b.size) = b := by
  have := ext_mid (strOfNums [k % 256] ++ lebS b.size) b rest
  rw [ByteArray.size_append, z1] at this
  rw [e2]; exact this
 have x2 : (secS k b ++ rest).extract (1 + (lebS b.size).size + b.size) (secS k b ++ rest).size = rest := by
  have := ext_end (strOfNums [k % 256] ++ lebS b.size ++ b) rest
  rw [ByteArray.size_append, ByteArray.size_append, z1] at this
  rw [e2]; exact this
 rw [dHeads, if_neg (by omega), hb0, if_neg (by omega), if_neg (fun h => h hl)]
 simp only [hG]
 rw [if_pos ⟨trivial, by omega⟩]
 rw [show ((1 : Int) + ((lebS b.size).size : Int)).toNat = 1 + (lebS b.size).size by omega, show ((1 : Int) + ((lebS b.size).size : Int) + (b.size : Int)).toNat = 1 + (lebS b.size).size + b.size by omega, x1, x2]
theorem head_ok (r : ByteArray) : hasHead (({ data := #[0, 97, 115, 109, 1, 0, 0, 0] } : ByteArray) ++ r) = true := by
 have h8 : (({ data := #[0, 97, 115, 109, 1, 0, 0, 0] } : ByteArray)).size = 8 := rfl
 have e : (({ data := #[0, 97, 115, 109, 1, 0, 0, 0] } : ByteArray) ++ r).extract 0 8 = ({ data := #[0, 97, 115, 109, 1, 0, 0, 0] } : ByteArray) := by
  have := ext_mid ⟨#[]⟩ ({ data := #[0, 97, 115, 109, 1, 0, 0, 0] } : ByteArray) r
  rwa [nil_app, show (⟨#[]⟩ : ByteArray).size = 0 from rfl, Nat.zero_add, h8] at this
 unfold hasHead
 have hx : (({ data := #[0, 97, 115, 109, 1, 0, 0, 0] } : ByteArray).toList == [0, 97, 115, 109, 1, 0, 0, 0]) = true := by kernel_rfl
 rw [e, decide_eq_true (by rw [ByteArray.size_append]; omega), hx]
 rfl
theorem head_rest (r : ByteArray) : (({ data := #[0, 97, 115, 109, 1, 0, 0, 0] } : ByteArray) ++ r).extract 8 (({ data := #[0, 97, 115, 109, 1, 0, 0, 0] } : ByteArray) ++ r).size = r := ext_end ({ data := #[0, 97, 115, 109, 1, 0, 0, 0] } : ByteArray) r
theorem mod_heads (r : ByteArray) : dMod (({ data := #[0, 97, 115, 109, 1, 0, 0, 0] } : ByteArray) ++ r) = if ¬ 8 + r.size ≤ 65536 then .error 1508 else match foldSec m0 (dHeads r.size r 0).1 with
  | .error c => .error c
  | .ok m => match (dHeads r.size r 0).2 with
   | some c => .error c
   | none => if m.funcs.length = m.codes.length then .ok m else .error 1505 := by
 unfold dMod
 rw [head_ok, head_rest, ByteArray.size_append, show (({ data := #[0, 97, 115, 109, 1, 0, 0, 0] } : ByteArray)).size = 8 from rfl, if_neg (by decide : ¬ (true = false))]
 rfl
theorem secS_pos (k : Int) (b : ByteArray) : 1 ≤ (secS k b).size := by
 rw [secS, ByteArray.size_append, ByteArray.size_append, str_size]; simp only [List.length_cons, List.length_nil]; omega
end Go.Proofs.YtkdoijfjceeblaaDoor.EDec
