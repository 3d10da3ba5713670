/-
  What the claim leans on, cut to what is used (wip/tools/prune15.py): words, printed functions, walks.
-/
import Derived.Test.YtkdoijfjceeblaaDoorQF2
import Derived.Test.YtkdoijfjceeblaaDoorQEDecA
namespace Go.Proofs.YtkdoijfjceeblaaDoor.EDec
open Go Go.RowKit Go.Proofs.YtkdoijfjceeblaaDoor.F Go.Proofs.YtkdoijfjceeblaaDoorW.Hand Go.Proofs.YtkdoijfjceeblaaDoorW.PrintWords Go.Proofs.YtkdoijfjceeblaaDoorW.PrintLast Go.Proofs.YtkdoijfjceeblaaDoorW.PrintMore
open Go.Proofs.YtkdoijfjceeblaaDoor.LebGets (G)
open Go.Proofs.YtkdoijfjceeblaaDoor.ENames (Tabs tabs_below nget nmay)
open Go.Proofs.YtkdoijfjceeblaaDoor.EInstr (GRes pGet get_b ret_int wrap_bt)
set_option linter.unusedVariables false
set_option linter.unusedSimpArgs false
def lebS (x : Int) : ByteArray := strOfNums (LebMath.U 9 (x % 18446744073709551616))
theorem leb_is (x : Int) {w0 W : World} (hb : Below w0.heap.size w0 W) : Calls Tryd.prog 17 #[.int .i64 x] W fun e w' => e = .returned (.string (lebS x)) ∧ Below w0.heap.size w0 w' := by
 obtain ⟨k, hk⟩ := LebFns.lebref_ev x
 exact (pelorusref12_Leb.calls k x _ W (hk k (Nat.le_refl _))).mono fun e w' h => ⟨h.1, hb.trans (h.2.mono hb.size)⟩
theorem U_le : ∀ (d : Nat) (u : Int), (LebMath.U d u).length ≤ d + 1
 | 0, u => by simp [LebMath.U]
 | d + 1, u => by
  have := U_le d (u / 128)
  rw [LebMath.U]
  split <;> simp <;> omega
theorem lebS_size (x : Int) : (lebS x).size ≤ 10 := by
 have := U_le 9 (x % 18446744073709551616)
 simpa [lebS, strOfNums, ByteArray.size] using this
def secS (k : Int) (b : ByteArray) : ByteArray := strOfNums [k % 256] ++ lebS b.size ++ b
theorem and7 (l : Int) : Go.bits .and .i64 l 7 = l % 8 := by
 have := LebMath.and_mask l 3 (by decide) 7 (by decide)
 simpa using this
theorem str_size (ds : List Int) : (strOfNums ds).size = ds.length := by simp [strOfNums, ByteArray.size]
theorem secS_size (k : Int) (b : ByteArray) : (secS k b).size ≤ 11 + b.size := by
 have := lebS_size b.size
 rw [secS, ByteArray.size_append, ByteArray.size_append, str_size]
 simp only [List.length_cons, List.length_nil]
 omega
theorem sum_ok {a b : Nat} (h : a + b ≤ 140737488355328) : ¬ 9223372036854775807 < a + b := by omega
end Go.Proofs.YtkdoijfjceeblaaDoor.EDec
