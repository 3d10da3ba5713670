/-
  What the claim leans on, in the order of its making: words about values and worlds, the printed functions, the decoder in plain words and its walk. Cut to what is used by wip/tools/prune15.py. (EDecLoc)
-/
import Derived.Test.YtkdoijfjceeblaaDoorQEDecLim
namespace Go.Proofs.YtkdoijfjceeblaaDoor.EDec
open Go Go.RowKit Go.Proofs.YtkdoijfjceeblaaDoor.F Go.Proofs.YtkdoijfjceeblaaDoorW.Hand Go.Proofs.YtkdoijfjceeblaaDoorW.PrintWords Go.Proofs.YtkdoijfjceeblaaDoorW.PrintLast Go.Proofs.YtkdoijfjceeblaaDoorW.PrintMore
open Go.Proofs.YtkdoijfjceeblaaDoor.LebGets (G)
open Go.Proofs.YtkdoijfjceeblaaDoor.ENames (Tabs tabs_below nget nmay)
open Go.Proofs.YtkdoijfjceeblaaDoor.EInstr (GRes pGet get_b ret_int wrap_bt)
set_option linter.unusedVariables false
set_option linter.unusedSimpArgs false
theorem value_at {p q : ByteArray} {t : Int} (ht : 124 ≤ t ∧ t ≤ 127) : dValue (p ++ strOfNums [t] ++ q) p.size = .ok (t, (p.size : Int) + 1) := by
  unfold dValue
  rw [oct_at ⟨by omega, by omega⟩]
  show (if valB t = true then _ else _) = _
  rw [if_pos (by unfold valB; exact decide_eq_true ht)]
theorem instrs_end {s : ByteArray} {a : Int} (h0 : 0 ≤ a) (h1 : a < s.size) (hb : bt s a = 11) : dInstrs s a = .ok ([], a + 1) := by
  have hp : pGet s a = .ok ([], a + 1) := by
    unfold pGet
    rw [if_neg (by omega)]
    have : EInstr.pByte s a = .ok (11, a + 1) := by unfold EInstr.pByte; rw [if_pos h1, hb]
    unfold EInstr.pList
    rw [this]
    rfl
  unfold dInstrs
  rw [hp]
def locB (x k y : Int) : ByteArray := (⟨#[2]⟩ : ByteArray) ++ lebS x ++ strOfNums [k] ++ lebS y ++ ⟨#[127, 11]⟩
def locP (z x k y : Int) : ByteArray := (⟨#[1]⟩ : ByteArray) ++ (lebS z ++ locB x k y)
theorem locB_size (x k y : Int) : (locB x k y).size = 4 + (lebS x).size + (lebS y).size := by
  have h1 : (⟨#[2]⟩ : ByteArray).size = 1 := rfl
  have h2 : (⟨#[127, 11]⟩ : ByteArray).size = 2 := rfl
  simp only [locB, ByteArray.size_append, str_size, List.length_cons, List.length_nil, h1, h2]; omega
theorem locP_size (z x k y : Int) : (locP z x k y).size = 5 + (lebS z).size + (lebS x).size + (lebS y).size := by
  have h1 : (⟨#[1]⟩ : ByteArray).size = 1 := rfl
  simp only [locP, ByteArray.size_append, locB_size, h1]; omega
theorem code_at {z x k y : Int} (hz : 0 ≤ z ∧ z < 4294967296) (hx : 0 ≤ x ∧ x < 256) (hy : 0 ≤ y ∧ y < 256) (hk : 124 ≤ k ∧ k ≤ 127) : dCode (locP z x k y) 1 = if x + y ≤ 256 then (if z = ((locB x k y).size : Int) then .ok (⟨List.replicate x.toNat k ++ List.replicate y.toNat 127, []⟩, ((locP z x k y).size : Int)) else .error 1504) else .error 1508 := by
  have sz := lebS_size z
  have sx := lebS_size x
  have sy := lebS_size y
  have sP := locP_size z x k y
  have sB := locB_size x k y
  have h1 : (⟨#[1]⟩ : ByteArray).size = 1 := rfl
  have h2 : (⟨#[2]⟩ : ByteArray).size = 1 := rfl
  have hk1 : (strOfNums [k]).size = 1 := str_size _
  have e127 : (⟨#[127, 11]⟩ : ByteArray) = strOfNums [127] ++ strOfNums [11] := by kernel_rfl
  have l2 : lebS 2 = ⟨#[2]⟩ := by kernel_rfl
  have eA : locP z x k y = (⟨#[1]⟩ : ByteArray) ++ lebS z ++ locB x k y := by simp only [locP, ByteArray.append_assoc]
  have eB : locP z x k y = ((⟨#[1]⟩ : ByteArray) ++ lebS z) ++ lebS 2 ++ (lebS x ++ strOfNums [k] ++ lebS y ++ ⟨#[127, 11]⟩) := by simp only [locP, locB, l2, ByteArray.append_assoc]
  have eC : locP z x k y = ((⟨#[1]⟩ : ByteArray) ++ lebS z ++ ⟨#[2]⟩) ++ lebS x ++ (strOfNums [k] ++ lebS y ++ ⟨#[127, 11]⟩) := by simp only [locP, locB, ByteArray.append_assoc]
  have eD : locP z x k y = ((⟨#[1]⟩ : ByteArray) ++ lebS z ++ ⟨#[2]⟩ ++ lebS x) ++ strOfNums [k] ++ (lebS y ++ ⟨#[127, 11]⟩) := by simp only [locP, locB, ByteArray.append_assoc]
  have eE : locP z x k y = ((⟨#[1]⟩ : ByteArray) ++ lebS z ++ ⟨#[2]⟩ ++ lebS x ++ strOfNums [k]) ++ lebS y ++ ⟨#[127, 11]⟩ := by simp only [locP, locB, ByteArray.append_assoc]
  have eF : locP z x k y = ((⟨#[1]⟩ : ByteArray) ++ lebS z ++ ⟨#[2]⟩ ++ lebS x ++ strOfNums [k] ++ lebS y) ++ strOfNums [127] ++ strOfNums [11] := by simp only [locP, locB, e127, ByteArray.append_assoc]
  have eG : locP z x k y = ((⟨#[1]⟩ : ByteArray) ++ lebS z ++ ⟨#[2]⟩ ++ lebS x ++ strOfNums [k] ++ lebS y ++ strOfNums [127]) ++ strOfNums [11] ++ ⟨#[]⟩ := by rw [app_nil]; exact eF
  generalize hP : locP z x k y = P at *
  have nA := num_at (p := (⟨#[1]⟩ : ByteArray)) (q := locB x k y) (x := z) hz.1 hz.2 (by rw [← eA]; omega)
  rw [← eA] at nA
  have nB := num_at (p := (⟨#[1]⟩ : ByteArray) ++ lebS z) (q := lebS x ++ strOfNums [k] ++ lebS y ++ ⟨#[127, 11]⟩) (x := 2) (by omega) (by omega) (by rw [← eB]; omega)
  rw [← eB, show (lebS 2).size = 1 by rw [l2]; rfl] at nB
  have nC := num_at (p := (⟨#[1]⟩ : ByteArray) ++ lebS z ++ ⟨#[2]⟩) (q := strOfNums [k] ++ lebS y ++ ⟨#[127, 11]⟩) (x := x) hx.1 (by omega) (by rw [← eC]; omega)
  rw [← eC] at nC
  have nD := value_at (p := (⟨#[1]⟩ : ByteArray) ++ lebS z ++ ⟨#[2]⟩ ++ lebS x) (q := lebS y ++ ⟨#[127, 11]⟩) hk
  rw [← eD] at nD
  have nE := num_at (p := (⟨#[1]⟩ : ByteArray) ++ lebS z ++ ⟨#[2]⟩ ++ lebS x ++ strOfNums [k]) (q := ⟨#[127, 11]⟩) (x := y) hy.1 (by omega) (by rw [← eE]; omega)
  rw [← eE] at nE
  have nF := value_at (p := (⟨#[1]⟩ : ByteArray) ++ lebS z ++ ⟨#[2]⟩ ++ lebS x ++ strOfNums [k] ++ lebS y) (q := strOfNums [11]) (t := 127) (by omega)
  rw [← eF] at nF
  have nG := bt_mid (p := (⟨#[1]⟩ : ByteArray) ++ lebS z ++ ⟨#[2]⟩ ++ lebS x ++ strOfNums [k] ++ lebS y ++ strOfNums [127]) (q := ⟨#[]⟩) (b := 11) (by omega)
  rw [← eG] at nG
  have h127 : (strOfNums [127]).size = 1 := str_size _
  simp only [ByteArray.size_append, h1, h2, hk1, h127] at nA nB nC nD nE nF nG
  have nH := instrs_end (s := P) (a := ((1 + (lebS z).size + 1 + (lebS x).size + 1 + (lebS y).size + 1 : Nat) : Int)) (by omega) (by omega) nG
  clear nG eA eB eC eD eE eF eG hP
  generalize (lebS z).size = nz at *
  generalize (lebS x).size = nx at *
  generalize (lebS y).size = ny at *
  have g1 : ((1 : Nat) : Int) = 1 := rfl
  rw [g1] at nA
  rw [show ((1 + nz : Nat) : Int) = 1 + (nz : Int) by omega] at nB
  rw [show ((1 + nz + 1 : Nat) : Int) = 1 + (nz : Int) + ((1 : Nat) : Int) by omega] at nC
  rw [show ((1 + nz + 1 + nx : Nat) : Int) = 1 + (nz : Int) + ((1 : Nat) : Int) + (nx : Int) by omega] at nD
  rw [show ((1 + nz + 1 + nx + 1 : Nat) : Int) = 1 + (nz : Int) + ((1 : Nat) : Int) + (nx : Int) + 1 by omega] at nE
  rw [show ((1 + nz + 1 + nx + 1 + ny : Nat) : Int) = 1 + (nz : Int) + ((1 : Nat) : Int) + (nx : Int) + 1 + (ny : Int) by omega] at nF
  rw [show ((1 + nz + 1 + nx + 1 + ny + 1 : Nat) : Int) = 1 + (nz : Int) + ((1 : Nat) : Int) + (nx : Int) + 1 + (ny : Int) + 1 by omega] at nH
  have r1 : dRun P [] (1 + (nz : Int) + ((1 : Nat) : Int)) = .ok (List.replicate x.toNat k, 1 + (nz : Int) + ((1 : Nat) : Int) + (nx : Int) + 1) := by
    unfold dRun
    rw [bnd_ok nC, if_pos (by simp; omega), bnd_ok nD, List.nil_append]
  have r2 : dRun P (List.replicate x.toNat k) (1 + (nz : Int) + ((1 : Nat) : Int) + (nx : Int) + 1) = if x + y ≤ 256 then .ok (List.replicate x.toNat k ++ List.replicate y.toNat 127, 1 + (nz : Int) + ((1 : Nat) : Int) + (nx : Int) + 1 + (ny : Int) + 1) else .error 1508 := by
    unfold dRun
    rw [bnd_ok nE, List.length_replicate]
    by_cases h : x + y ≤ 256
    · rw [if_pos (by omega), if_pos h, bnd_ok nF]
    · rw [if_neg (by omega), if_neg h]
  unfold dCode
  rw [bnd_ok nA, bnd_ok nB, if_pos (by omega), show (2 : Int).toNat = 2 from rfl]
  unfold dRuns
  rw [bnd_ok r1]
  unfold dRuns
  rw [r2]
  by_cases h : x + y ≤ 256
  · rw [if_pos h, if_pos h]
    show bnd (dRuns P 0 _ _) _ = _
    unfold dRuns
    show bnd (dInstrs P _) _ = _
    rw [bnd_ok nH]
    by_cases h2 : z = ((locB x k y).size : Int)
    · rw [if_pos (by omega), if_pos h2]
      congr 2
      omega
    · rw [if_neg (by omega), if_neg h2]
  · rw [if_neg h, if_neg h]; rfl
theorem loc_mod {z x k y : Int} (hz : 0 ≤ z ∧ z < 4294967296) (hx : 0 ≤ x ∧ x < 256) (hy : 0 ≤ y ∧ y < 256) (hk : 124 ≤ k ∧ k ≤ 127) : dMod (({ data := #[0, 97, 115, 109, 1, 0, 0, 0] } : ByteArray) ++ secS 3 ⟨#[1, 0]⟩ ++ secS 10 (locP z x k y)) = if x + y ≤ 256 then (if z = ((locB x k y).size : Int) then .ok { m0 with funcs := [0], codes := [⟨List.replicate x.toNat k ++ List.replicate y.toNat 127, []⟩] } else .error 1504) else .error 1508 := by
  have sz := lebS_size z
  have sx := lebS_size x
  have sy := lebS_size y
  have sP := locP_size z x k y
  have sB := locB_size x k y
  have t3 := secS_size 3 ⟨#[1, 0]⟩
  have t10 := secS_size 10 (locP z x k y)
  have h2 : (⟨#[1, 0]⟩ : ByteArray).size = 2 := rfl
  have hd3 : dSec ⟨#[1, 0]⟩ 3 m0 = .ok { m0 with funcs := [0] } := by kernel_rfl
  have ho := one_list (B := lebS z ++ locB x k y) (f := dCode (locP z x k y)) (most := 256) (by omega) (by rw [ByteArray.size_append]; omega)
  rw [← locP, code_at hz hx hy hk] at ho
  rw [mod_two (by omega) (by omega) (by omega) (by omega) (by omega), if_neg (by omega), hd3]
  have hd : dSec (locP z x k y) 10 { m0 with funcs := [0] } = if x + y ≤ 256 then (if z = ((locB x k y).size : Int) then .ok { m0 with funcs := [0], codes := [⟨List.replicate x.toNat k ++ List.replicate y.toNat 127, []⟩] } else .error 1504) else .error 1508 := by
    simp (decide := true) only [dSec, if_true, if_false]
    rw [ho]
    by_cases h : x + y ≤ 256
    · rw [if_pos h, if_pos h]
      by_cases h2 : z = ((locB x k y).size : Int)
      · rw [if_pos h2, if_pos h2]
        simp [secA, bnd]
      · rw [if_neg h2, if_neg h2]; rfl
    · rw [if_neg h, if_neg h]; rfl
  simp only [hd]
  by_cases h : x + y ≤ 256
  · rw [if_pos h]
    by_cases h2 : z = ((locB x k y).size : Int)
    · rw [if_pos h2]; rfl
    · rw [if_neg h2]
  · rw [if_neg h]
end Go.Proofs.YtkdoijfjceeblaaDoor.EDec
