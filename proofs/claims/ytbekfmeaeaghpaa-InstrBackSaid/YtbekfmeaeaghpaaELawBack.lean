/-
  InstrBack: the walk.
-/
import Derived.Test.YtbekfmeaeaghpaaD14G
namespace Go.Proofs.Ytbekfmeaeaghpaa.EInstr
open Go Go.RowKit Go.Proofs.Ytbekfmeaeaghpaa.F Go.Proofs.YtbekfmeaeaghpaaW.Hand Go.Proofs.YtbekfmeaeaghpaaW.PrintWords Go.Proofs.YtbekfmeaeaghpaaW.PrintLast Go.Proofs.YtbekfmeaeaghpaaW.PrintMore
open Go.Proofs.YtbekfmeaeaghpaaW.Byt
set_option linter.unusedVariables false
set_option linter.unusedSimpArgs false

theorem cut_at (cut : Int) (n : Nat) (h0 : 0 < n) (h1 : (n : Int) < 9223372036854775808) : ∃ j : Nat, wrap64 ((IntKind.u64.wrap cut).tmod (n : Int)) = (j : Int) ∧ j < n := by
  have e0 : 0 ≤ IntKind.u64.wrap cut := by rw [LebMath.u64_eq]; omega
  rw [Int.tmod_eq_emod_of_nonneg e0]
  have e2 := Int.emod_nonneg (IntKind.u64.wrap cut) (show (n : Int) ≠ 0 by omega)
  have e3 := Int.emod_lt_of_pos (IntKind.u64.wrap cut) (show (0 : Int) < n by omega)
  refine ⟨((IntKind.u64.wrap cut) % (n : Int)).toNat, ?_, by omega⟩
  unfold wrap64
  omega
theorem bt_extract (s : ByteArray) (j i : Nat) (hj : j ≤ s.size) (hi : i < j) : bt (s.extract 0 j) (i : Int) = bt s (i : Int) := by
  unfold bt
  simp only [Int.toNat_natCast]
  rw [dif_pos (by rw [ByteArray.size_extract]; omega), dif_pos (by omega), ByteArray.getElem_extract]
  simp
theorem back_ext {is : List S44} (wf : wf64 is) (hm : mayE is = 0) {j : Nat} (hj : j < (putS is).size) : pGet ((putS is).extract 0 j) 0 = .error 1401 := by
  have e : ((putS is).extract 0 j).size = j := by rw [ByteArray.size_extract]; omega
  exact back_cut wf hm (by omega) (fun i hi => bt_extract _ _ _ (by omega) (by omega))
theorem putS_sm {is : List S44} (wf : wf64 is) (hm : mayE is = 0) : (putS is).size ≤ 84377601 := by
  have := putL_bound hm wf
  rw [putS_size]
  omega
set_option maxHeartbeats 4000000 in
set_option maxRecDepth 100000 in
theorem back_no (W : World) {is : List S44} {A : Option Addr} {c : Nat} {r : Int} (p : ByteArray) (cut : Int) (hA : k44.C W A is.length is) (hc : is.length ≤ c) (hr : mayE is = r) (h0 : r ≠ 0) : Calls Try.prog 5 #[.slice A is.length c, .string p, .int .i64 cut] W fun e w' => e = .returned (.bool true) ∧ Below W.heap.size W w' := by
  have B := Aside0.mk (Below.refl W.heap.size W)
  have P := Aside0.mk hA
  have HC := Aside0.mk hc
  have MR := Aside0.mk hr
  have NZ := Aside0.mk h0
  have z0 : (r == 0) = false := by simpa using h0
  have z1 : (r != 0) = true := by simpa using h0
  have z2 : decide (r = 0) = false := decide_eq_false h0
  clear hA hc hr
  go_enter Try.func5, Try.ntmps5
  go_wp2_with (first
    | (go_at_call 20; (with_reducible refine (awake14_c _).mono ?_); rintro e w1 ⟨rfl, hb⟩; replace P := Aside0.mk (Kd.C_below P.out hb); replace B := Aside0.mk (below_step B.out hb);  clear hb)
    | (go_at_call 14; (with_reducible refine (put_er P.out rfl HC.out MR.out NZ.out).mono ?_); rintro e w2 ⟨rfl, hb⟩; replace P := Aside0.mk (Kd.C_below P.out hb); replace B := Aside0.mk (below_step B.out hb);  clear hb)
    | (go_at_call 16; (with_reducible refine (num_c _ _).mono ?_); rintro e w' ⟨rfl, rfl⟩))
  go_ret
  exact ⟨rfl, B.out⟩
set_option maxHeartbeats 4000000 in
set_option maxRecDepth 100000 in
theorem back_yes0 (W : World) {is : List S44} {A : Option Addr} {c j : Nat} (p s : ByteArray) (cut : Int) (hA : k44.C W A is.length is) (hc : is.length ≤ c) (wf : wf64 is) (hr : mayE is = 0) (hs : putS is = s) (hp : p.size ≤ 140737488355328) (hz : s.size ≤ 84377601) (hj : wrap64 ((IntKind.u64.wrap cut).tmod (s.size : Int)) = (j : Int)) (hlt : j < s.size) (h0 : 0 < s.size) : Calls Try.prog 5 #[.slice A is.length c, .string p, .int .i64 cut] W fun e w' => e = .returned (.bool true) ∧ Below W.heap.size W w' := by
  have B := Aside0.mk (Below.refl W.heap.size W)
  have P := Aside0.mk hA
  have HC := Aside0.mk hc
  have WF := Aside0.mk wf
  have MA := Aside0.mk hr
  have HS := Aside0.mk hs
  have e1 : (p ++ s).size = p.size + s.size := ByteArray.size_append
  have e2 : (p ++ s ++ ⟨#[113]⟩).size = p.size + s.size + 1 := by rw [ByteArray.size_append, e1]; rfl
  have GM := Aside0.mk (show pGet (p ++ s ++ ⟨#[113]⟩) (p.size : Int) = .ok (is, (p.size : Int) + (s.size : Int)) by rw [← hs]; exact back_mid wf hr p _ (by rw [hs]; omega))
  have SZ := Aside0.mk (show (p ++ s ++ ⟨#[113]⟩).size ≤ 1152921504606846976 by omega)
  have GC := Aside0.mk (show pGet (s.extract 0 j) 0 = .error 1401 by rw [← hs]; exact back_ext wf hr (by rw [hs]; exact hlt))
  have SC := Aside0.mk (show (s.extract 0 j).size ≤ 1152921504606846976 by rw [ByteArray.size_extract]; omega)
  have f1 : ¬ 9223372036854775807 < p.size + s.size := by omega
  have f2 : ¬ 9223372036854775807 < p.size + s.size + 1 := by omega
  have f3 : wrap64 ((p.size : Int) + (s.size : Int)) = (p.size : Int) + (s.size : Int) := by unfold wrap64; omega
  have f4 : (0 : Int) ≤ (j : Int) := by omega
  have f5 : (j : Int) ≤ (s.size : Int) := by omega
  have f6 : IntKind.u64.wrap (s.size : Int) ≠ 0 := by rw [LebMath.u64_eq]; omega
  have f7 : (IntKind.u64.wrap (s.size : Int) == 0) = false := by simpa using f6
  have f8 : ¬ s = ByteArray.empty := fun e => by rw [e] at h0; simp at h0
  clear hA hc wf hr hs hp hz hlt h0 e1 e2
  go_enter Try.func5, Try.ntmps5
  go_wp2_with (first
    | (go_at_call 20; (with_reducible refine (awake14_c _).mono ?_); rintro e w1 ⟨rfl, hb⟩; replace P := Aside0.mk (Kd.C_below P.out hb); replace B := Aside0.mk (below_step B.out hb);  clear hb)
    | (go_at_call 14; (with_reducible refine (put_ok P.out rfl HC.out WF.out MA.out HS.out).mono ?_); rintro e w2 ⟨rfl, hb⟩; replace P := Aside0.mk (Kd.C_below P.out hb); replace B := Aside0.mk (below_step B.out hb);  clear hb)
    | (go_at_call 21; (with_reducible refine (get_ok (n := is.length) GM.out rfl SZ.out _).mono ?_); rintro e w3 ⟨AX, cX, rfl, hC, hc, hb⟩; replace P := Aside0.mk (Kd.C_below P.out hb); replace B := Aside0.mk (below_step B.out hb); have X := Aside0.mk hC; have LX := Aside0.mk hc; clear hC hc; clear hb)
    | (go_at_call 21; (with_reducible refine (get_er GC.out SC.out _).mono ?_); rintro e w4 ⟨rfl, hb⟩; replace P := Aside0.mk (Kd.C_below P.out hb); replace X := Aside0.mk (Kd.C_below X.out hb); replace B := Aside0.mk (below_step B.out hb);  clear hb)
    | (go_at_call 16; (with_reducible refine (num_c _ _).mono ?_); rintro e w' ⟨rfl, rfl⟩)
    | (go_at_call 19; (with_reducible refine (same_ok X.out P.out rfl LX.out HC.out).mono ?_); rintro e w5 ⟨rfl, hb⟩; replace P := Aside0.mk (Kd.C_below P.out hb); replace X := Aside0.mk (Kd.C_below X.out hb); replace B := Aside0.mk (below_step B.out hb);  clear hb))
  go_ret
  exact ⟨rfl, B.out⟩
theorem back_calls (W : World) {is : List S44} {A : Option Addr} {c : Nat} (p : ByteArray) (cut : Int) (hA : k44.C W A is.length is) (hc : is.length ≤ c) (wf : wf64 is) (hp : p.size ≤ 140737488355328) : Calls Try.prog 5 #[.slice A is.length c, .string p, .int .i64 cut] W fun e w' => e = .returned (.bool true) ∧ Below W.heap.size W w' := by
  by_cases h : mayE is = 0
  · have h1 := putS_sm wf h
    have h2 := putS_size is
    obtain ⟨j, hj, hlt⟩ := cut_at cut (putS is).size (by omega) (by omega)
    exact back_yes0 W p _ cut hA hc wf h rfl hp h1 hj hlt (by omega)
  · exact back_no W p cut hA hc rfl h
theorem back_row {w : World} {ks : List S44} {ck : List Value} {p : ByteArray} {cut : Int} (h0 : (Kd.slice 44 k44).K w ks ck) (g0 : wf64 ks) (g1 : p.size ≤ 140737488351232) : Calls Try.prog 5 #[ck.headD undef, .string p, .int .i64 cut] w fun e w' => e = .returned (.bool true) ∧ Below w.heap.size w w' := by
  obtain ⟨A, c, rfl, hc, hK⟩ := h0
  exact back_calls w p cut hK hc g0 (by omega)
end Go.Proofs.Ytbekfmeaeaghpaa.EInstr
