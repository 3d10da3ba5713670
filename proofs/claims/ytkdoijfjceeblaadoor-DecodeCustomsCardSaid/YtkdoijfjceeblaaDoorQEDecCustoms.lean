/-
  What the claim leans on, cut to what is used (wip/tools/prune15.py): words, printed functions, walks.
-/
import Derived.Test.YtkdoijfjceeblaaDoorQEDecCustoms1
namespace Go.Proofs.YtkdoijfjceeblaaDoor.EDec
open Go Go.RowKit Go.Proofs.YtkdoijfjceeblaaDoor.F Go.Proofs.YtkdoijfjceeblaaDoorW.Hand Go.Proofs.YtkdoijfjceeblaaDoorW.PrintWords Go.Proofs.YtkdoijfjceeblaaDoorW.PrintLast Go.Proofs.YtkdoijfjceeblaaDoorW.PrintMore
open Go.Proofs.YtkdoijfjceeblaaDoor.LebGets (G)
open Go.Proofs.YtkdoijfjceeblaaDoor.ENames (Tabs tabs_below nget nmay)
open Go.Proofs.YtkdoijfjceeblaaDoor.EInstr (GRes pGet get_b ret_int wrap_bt)
set_option linter.unusedVariables false
set_option linter.unusedSimpArgs false
theorem wrap_j {n : Nat} (h : n ≤ 100000) : wrap64 (n : Int) = (n : Int) := by unfold wrap64; omega
theorem wrap_s {n : Nat} (h : n ≤ 100000) : wrap64 ((n : Int) + 1) = (n : Int) + 1 := by unfold wrap64; omega
set_option maxHeartbeats 8000000 in
set_option maxRecDepth 100000 in
theorem customs_fine {s nm ex : ByteArray} {a3 : Int} {m : Mod} {q : Int} (hE : dMod s = .ok m) (hc : m.funcs.length = m.codes.length) (h : ¬ 60000 < s.size) (hm : nmay nm = true) (he : ¬ 1000 < ex.size) (hq : Go.bits .and .i64 a3 7 = q) (rq : 0 ≤ q ∧ q ≤ 7) (W : World) (hz : s.size ≤ 140737488355328) (hzn : nm.size ≤ 140737488355328) (hze : ex.size ≤ 140737488355328) (hT : Tabs W) : Calls Tryd.prog 3 #[.string s, .string nm, .string ex, .int .i64 a3] W fun e w' => e = .returned (.bool true) ∧ Below W.heap.size W w' := by
 have HT := am hT
 have HZ := am hz
 have HZN := am hzn
 have BW_0 := am (Below.refl W.heap.size W)
 have E0 := am hE
 have HM := am hm
 have HNE := am hc
 have d0 : decide ((60000 : Int) < (s.size : Int)) = false := decide_eq_false (by omega)
 have d1 : decide (60000 < s.size) = false := decide_eq_false (by omega)
 have e0 : decide ((1000 : Int) < (ex.size : Int)) = false := decide_eq_false (by omega)
 have e1 : decide (1000 < ex.size) = false := decide_eq_false (by omega)
 have h8 : 8 ≤ s.size := head_size (mod_parts hE).2.1
 have hh : s.extract 0 8 = ({ data := #[0, 97, 115, 109, 1, 0, 0, 0] } : ByteArray) := head_eq (mod_parts hE).2.1
 have h64 : nm.size ≤ 64 := by
  unfold nmay at hm
  rw [Bool.and_eq_true] at hm
  exact of_decide_eq_true hm.1
 obtain ⟨b, hb⟩ : ∃ b, lebS (nm.size : Int) ++ nm ++ ex = b := ⟨_, rfl⟩
 have zl := lebS_size (nm.size : Int)
 have zb : b.size ≤ 1074 := by rw [← hb]; simp only [ByteArray.size_append]; omega
 have hsec : ∀ m, dSec b 0 m = .ok m := fun m => by rw [← hb]; exact cust_sec hm (by omega) m
 obtain ⟨C, hC⟩ : ∃ C, (⟨#[0]⟩ : ByteArray) ++ lebS (b.size : Int) ++ b = C := ⟨_, rfl⟩
 have hCs : secS 0 b = C := by
  rw [← hC, secS]
  rfl
 have zC : C.size ≤ 1085 := by rw [← hCs]; have := secS_size 0 b; omega
 have HSEC := am hsec
 have HCS := am hCs
 have ci0 := ci_start hE
 have CI0 := am ci0
 have ZC := am zC
 have n1 := sum_ok (a := (lebS (nm.size : Int)).size) (b := nm.size) (by omega)
 have n2 : ¬ 9223372036854775807 < (lebS (nm.size : Int)).size + nm.size + ex.size := by omega
 have n3 := sum_ok (a := 1) (b := (lebS (b.size : Int)).size) (by have := lebS_size (b.size : Int); omega)
 have n4 : ¬ 9223372036854775807 < 1 + (lebS (b.size : Int)).size + b.size := by have := lebS_size (b.size : Int); omega
 have z8 : (8 : Int) ≤ (s.size : Int) := by omega
 have ZS := am (show s.size ≤ 60000 by omega)
 have HQ := am rq
 clear hE hm hc h he zl zb hsec hCs ci0 zC h64 h8 rq
 clear hT hz hzn hze
 go_enter Tryd.func3, Tryd.ntmps3
 go_wp2_with (first
  | (go_at_call 12; (with_reducible refine (awake_c (tabs_below HT.out BW_0.out) (Below.refl W.heap.size W)).mono ?_); rintro e w1 ⟨rfl, hb⟩; have BW_1 := am (BW_0.out.trans (hb.mono BW_0.out.size)); clear BW_0; clear hb)
  | (go_at_call 13; (with_reducible refine (mod_ok_rd E0.out (tabs_below HT.out BW_1.out)).mono ?_); rintro e w2 ⟨A0, A1, A2, A3, A4, A5, A6, A8, A9, A10, c0, c1, c2, c3, c4, c5, c6, c8, c9, c10, rfl, MR, hb⟩; have BW_2 := am (BW_1.out.trans (hb.mono BW_1.out.size)); clear BW_1; have BX_2 := am (Below.refl w2.heap.size w2); have ZM := am MR; clear MR; clear hb)
  | ((with_reducible refine gate_dst (N := 9) rfl ?_); refine box_event ?hg (N := 9) ?hd (cs := #[.slice none 0 0, .slice none 0 0, .slice none 0 0, .slice none 0 0, .slice none 0 0, .slice none 0 0, .slice none 0 0, .int .i64 0, .slice none 0 0, .slice none 0 0, .slice none 0 0]) (t := 33) ?hr ?_; (case hd => rfl); (case hg => rfl); (case hr => first | (go_simp; done) | (go_simp; rfl)); intro q1 hgq1 w3 hA hb; have Jq1 := am hA; have Mq1 := am (show W.heap.size ≤ q1 by have := BW_2.out.size; omega); have MXq1 := am (show w2.heap.size ≤ q1 by have := BX_2.out.size; omega); have BW_3 := am (BW_2.out.trans (hb.mono BW_2.out.size)); clear BW_2; have BX_3 := am (BX_2.out.trans (hb.mono BX_2.out.size)); clear BX_2; clear hA hb hgq1)
  | ((with_reducible refine gate_store (p := 9) rfl ?_); refine storeRow_event (g := q1) rfl rfl rfl (cs := #[.slice A0 m.types.length c0, .slice A1 m.imports.length c1, .slice A2 m.funcs.length c2, .slice A3 m.tables.length c3, .slice A4 m.mems.length c4, .slice A5 m.globals.length c5, .slice A6 m.exports.length c6, .int .i64 m.start, .slice A8 m.elems.length c8, .slice A9 m.codes.length c9, .slice A10 m.datas.length c10]) rfl rfl Jq1.out (by kernel_rfl) rfl (by simp [Value.oneCell']) ?_; intro w4 hA hb ho hs; have BW_4 := am (hb _ _ Mq1.out BW_3.out); clear BW_3; have BX_4 := am (hb _ _ MXq1.out BX_3.out); clear BX_3; clear Jq1 Mq1 MXq1; have ZMb := am (ZM.out.below BX_4.out); clear ZM; have ZM := ZMb; clear ZMb; clear BX_4; have BX_4 := am (Below.refl w4.heap.size w4); have Zq1_0 := am (show w4.cell? ⟨q1, 0, none⟩ = some (.slice A0 m.types.length c0) from blk_cell hA 0); have Zq1_1 := am (show w4.cell? ⟨q1, 1, none⟩ = some (.slice A1 m.imports.length c1) from blk_cell hA 1); have Zq1_2 := am (show w4.cell? ⟨q1, 2, none⟩ = some (.slice A2 m.funcs.length c2) from blk_cell hA 2); have Zq1_3 := am (show w4.cell? ⟨q1, 3, none⟩ = some (.slice A3 m.tables.length c3) from blk_cell hA 3); have Zq1_4 := am (show w4.cell? ⟨q1, 4, none⟩ = some (.slice A4 m.mems.length c4) from blk_cell hA 4); have Zq1_5 := am (show w4.cell? ⟨q1, 5, none⟩ = some (.slice A5 m.globals.length c5) from blk_cell hA 5); have Zq1_6 := am (show w4.cell? ⟨q1, 6, none⟩ = some (.slice A6 m.exports.length c6) from blk_cell hA 6); have Zq1_7 := am (show w4.cell? ⟨q1, 7, none⟩ = some (.int .i64 m.start) from blk_cell hA 7); have Zq1_8 := am (show w4.cell? ⟨q1, 8, none⟩ = some (.slice A8 m.elems.length c8) from blk_cell hA 8); have Zq1_9 := am (show w4.cell? ⟨q1, 9, none⟩ = some (.slice A9 m.codes.length c9) from blk_cell hA 9); have Zq1_10 := am (show w4.cell? ⟨q1, 10, none⟩ = some (.slice A10 m.datas.length c10) from blk_cell hA 10); clear hA hb ho hs)
  | (go_at_call 14; (with_reducible refine (num_is _ (Below.refl w4.heap.size w4)).mono ?_); rintro e w5 ⟨rfl, hb⟩; have BW_5 := am (BW_4.out.trans (hb.mono BW_4.out.size)); clear BW_4; have BX_5 := am (BX_4.out.trans (hb.mono BX_4.out.size)); clear BX_4; clear hb)
  | (go_at_call 15; (with_reducible refine (may_c HM.out HZN.out (tabs_below HT.out BW_5.out)).mono ?_); rintro e w6 ⟨rfl, hb⟩; have BW_6 := am (BW_5.out.trans (hb.mono BW_5.out.size)); clear BW_5; have BX_6 := am (BX_5.out.trans (hb.mono BX_5.out.size)); clear BX_5; clear hb)
  | (go_at_call 17; (with_reducible refine (leb_w _ w6).mono ?_); rintro e w7 ⟨rfl, hb⟩; have BW_7 := am (BW_6.out.trans (hb.mono BW_6.out.size)); clear BW_6; have BX_7 := am (BX_6.out.trans (hb.mono BX_6.out.size)); clear BX_6; clear hb)
  | (go_at_call 17; (with_reducible refine (leb_w _ w7).mono ?_); rintro e w8 ⟨rfl, hb⟩; have BW_8 := am (BW_7.out.trans (hb.mono BW_7.out.size)); clear BW_7; have BX_8 := am (BX_7.out.trans (hb.mono BX_7.out.size)); clear BX_7; clear hb))
 go_loopg [13, 14, 15] s.size (fun n v13 v14 v15 wr => ∃ (i k : Nat) (tp : ByteArray), i + n = s.size + 8 ∧ v13 = .string (({ data := #[0, 97, 115, 109, 1, 0, 0, 0] } : ByteArray) ++ tp) ∧ v14 = .int .i64 k ∧ v15 = .int .i64 i ∧ CI s m i tp ∧ k ≤ i ∧ (tp.size + 8 ≤ i + (if q < (k : Int) then C.size else 0)) ∧ Below W.heap.size W wr ∧ Below w4.heap.size w4 wr)
 case atStart => exact ⟨8, 0, ⟨#[]⟩, by have := CI0.out.hi; omega, by rw [app_nil], rfl, rfl, CI0.out, by omega, by
  have := HQ.out
  rw [if_neg (by omega)]; exact Nat.le_refl _, BW_8.out, BX_8.out⟩
 case round =>
  obtain ⟨i, k, tp, hi, rfl, rfl, rfl, hci, hki, htp, hB1, hB2⟩ := hrel
  clear BW_8 BX_8 CI0
  have hi8 := hci.lo
  have his := hci.hi
  have htp2 : tp.size + 8 ≤ i + C.size := by split at htp <;> omega
  have zs := ZS.out
  have zc := ZC.out
  have I0 := am hi
  have BW_0 := am hB1
  have BX_0 := am hB2
  have HCI := am hci
  have HTP := am htp
  have HKI := am hki
  clear hi hB1 hB2
  by_cases hlt : i < s.size
  ·obtain ⟨x, y, hG, hy, hx, hyx, hci2⟩ := ci_section hci hlt (by omega)
   obtain ⟨hg0, hg1, hg2, hg3, hg4⟩ := G_in hG
   have dl : decide (i < s.size) = true := decide_eq_true hlt
   have dl2 : decide ((i : Int) < (s.size : Int)) = true := decide_eq_true (by omega)
   have HG := am hG
   have LT := am hlt
   obtain ⟨j, hj⟩ : ∃ j : Nat, y + x = (j : Int) := ⟨(y + x).toNat, by omega⟩
   rw [show (y + x).toNat = j by omega] at hci2
   have HJ := am (show i < j ∧ j ≤ s.size by omega)
   have zr : (s.extract i j).size = j - i := ext_sz s i j (by omega)
   have j0 : (0 : Int) ≤ (i : Int) := by omega
   have j1 : (i : Int) ≤ (j : Int) := by omega
   have j2 : (j : Int) ≤ (s.size : Int) := by omega
   have m1 : ¬ 9223372036854775807 < 8 + tp.size + C.size := by omega
   have m2 : ¬ 9223372036854775807 < 8 + tp.size + C.size + (s.extract i j).size := by omega
   have m3 : ¬ 9223372036854775807 < 8 + tp.size + (s.extract i j).size := by omega
   have m4 : ¬ 9223372036854775807 < 8 + tp.size + C.size + (min j s.size - i) := by omega
   have m5 : ¬ 9223372036854775807 < 8 + tp.size + (min j s.size - i) := by omega
   have m6 : ¬ 9223372036854775807 < 8 + tp.size + C.size + (j - i) := by omega
   have m7 : ¬ 9223372036854775807 < 8 + tp.size + (j - i) := by omega
   have WI := am (show i ≤ 100000 ∧ k ≤ 100000 ∧ j ≤ 100000 by omega)
   by_cases hkq : (k : Int) = q
   ·have dk : ((k : Int) == q) = true := beq_iff_eq.2 hkq
    have HCI2 : Aside0 (CI s m j (tp ++ C ++ s.extract i j)) := ⟨by
     have hcc := ci_custom HCI.out HSEC.out (by rw [ByteArray.size_append, HCS.out]; omega)
     rw [HCS.out] at hcc
     obtain ⟨x', y', hG', _, _, _, hci3⟩ := ci_section hcc hlt (by omega)
     rw [hG] at hG'
     cases hG'
     rw [show (y + x).toNat = j by omega] at hci3
     exact hci3⟩
    have HTP2 : Aside0 ((tp ++ C ++ s.extract i j).size + 8 ≤ j + (if q < ((k + 1 : Nat) : Int) then C.size else 0)) := ⟨by
     have := HTP.out
     rw [if_neg (by omega)] at this
     rw [if_pos (by omega)]
     simp only [ByteArray.size_append]
     omega⟩
    clear hci hki htp hci2 hG hy hx hyx hg0 hg1 hg2 hg3 hg4 hlt hi8 his htp2 zs zc zr hkq
    have wi := wrap_s WI.out.1
    have wk := wrap_s WI.out.2.1
    have wj := wrap_j WI.out.2.2
    go_wp2_with (first
     | (go_at_call 18; (with_reducible refine (unleb_ok HG.out HZ.out wr).mono ?_); rintro e w1 ⟨rfl, hb⟩; have BW_1 := am (BW_0.out.trans (hb.mono BW_0.out.size)); clear BW_0; have BX_1 := am (BX_0.out.trans (hb.mono BX_0.out.size)); clear BX_0; clear hb))
    go_roundg (s.size + 8 - j)
    case measure => clear wi wk wj hq m1 m2 m3 m4 m5 m6 m7; have := I0.out; have := LT.out; have := HJ.out; omega
    case rel => exact ⟨j, k + 1, tp ++ C ++ s.extract i j, by clear wi wk wj hq m1 m2 m3 m4 m5 m6 m7; have := HJ.out; omega, by simp only [ByteArray.append_assoc], by first | rfl | (rw [wk]; rfl), by first | rfl | rw [wj], HCI2.out, by clear wi wk wj hq m1 m2 m3 m4 m5 m6 m7; have := HKI.out; have := HJ.out; omega, HTP2.out, BW_1.out, BX_1.out⟩
   ·have dk : ((k : Int) == q) = false := beq_eq_false_iff_ne.2 hkq
    have HCI2 : Aside0 (CI s m j (tp ++ s.extract i j)) := ⟨hci2⟩
    have HTP2 : Aside0 ((tp ++ s.extract i j).size + 8 ≤ j + (if q < ((k + 1 : Nat) : Int) then C.size else 0)) := ⟨by
     have := HTP.out
     rw [ByteArray.size_append, zr]
     by_cases hq : q < (k : Int)
     ·rw [if_pos hq] at this
      rw [if_pos (by omega)]
      omega
     ·rw [if_neg hq] at this
      rw [if_neg (by omega)]
      omega⟩
    clear hci hki htp hci2 hG hy hx hyx hg0 hg1 hg2 hg3 hg4 hlt hi8 his htp2 zs zc zr hkq
    have wi := wrap_s WI.out.1
    have wk := wrap_s WI.out.2.1
    have wj := wrap_j WI.out.2.2
    go_wp2_with (first
     | (go_at_call 18; (with_reducible refine (unleb_ok HG.out HZ.out wr).mono ?_); rintro e w1 ⟨rfl, hb⟩; have BW_1 := am (BW_0.out.trans (hb.mono BW_0.out.size)); clear BW_0; have BX_1 := am (BX_0.out.trans (hb.mono BX_0.out.size)); clear BX_0; clear hb))
    go_roundg (s.size + 8 - j)
    case measure => clear wi wk wj hq m1 m2 m3 m4 m5 m6 m7; have := I0.out; have := LT.out; have := HJ.out; omega
    case rel => exact ⟨j, k + 1, tp ++ s.extract i j, by clear wi wk wj hq m1 m2 m3 m4 m5 m6 m7; have := HJ.out; omega, by simp only [ByteArray.append_assoc], by first | rfl | (rw [wk]; rfl), by first | rfl | rw [wj], HCI2.out, by clear wi wk wj hq m1 m2 m3 m4 m5 m6 m7; have := HKI.out; have := HJ.out; omega, HTP2.out, BW_1.out, BX_1.out⟩
  ·obtain rfl : i = s.size := by omega
   have dl : decide (s.size < s.size) = false := decide_eq_false (by omega)
   have dl2 : decide ((s.size : Int) < (s.size : Int)) = false := decide_eq_false (by omega)
   have hO := ci_end hci HSEC.out (by rw [ByteArray.size_append, HCS.out]; omega) HNE.out
   rw [HCS.out, ← ByteArray.append_assoc] at hO
   have EO := am hO
   have m1 : ¬ 9223372036854775807 < 8 + tp.size + C.size := by omega
   clear hci hki htp hO hlt hi8 his htp2 zs zc
   go_wp2_with (first
    | (go_at_call 13; (with_reducible refine (mod_ok_rd EO.out (tabs_below HT.out BW_0.out)).mono ?_); rintro e w1 ⟨B0, B1, B2, B3, B4, B5, B6, B8, B9, B10, d0, d1, d2, d3, d4, d5, d6, d8, d9, d10, rfl, MR, hb⟩; have BW_1 := am (BW_0.out.trans (hb.mono BW_0.out.size)); clear BW_0; have BX_1 := am (BX_0.out.trans (hb.mono BX_0.out.size)); clear BX_0; have ZMb := am (ZM.out.below BX_1.out); clear ZM; have ZM := ZMb; clear ZMb; have Zq1_0b := am (pw_cell_below BX_1.out Zq1_0.out); clear Zq1_0; have Zq1_0 := Zq1_0b; clear Zq1_0b; have Zq1_1b := am (pw_cell_below BX_1.out Zq1_1.out); clear Zq1_1; have Zq1_1 := Zq1_1b; clear Zq1_1b; have Zq1_2b := am (pw_cell_below BX_1.out Zq1_2.out); clear Zq1_2; have Zq1_2 := Zq1_2b; clear Zq1_2b; have Zq1_3b := am (pw_cell_below BX_1.out Zq1_3.out); clear Zq1_3; have Zq1_3 := Zq1_3b; clear Zq1_3b; have Zq1_4b := am (pw_cell_below BX_1.out Zq1_4.out); clear Zq1_4; have Zq1_4 := Zq1_4b; clear Zq1_4b; have Zq1_5b := am (pw_cell_below BX_1.out Zq1_5.out); clear Zq1_5; have Zq1_5 := Zq1_5b; clear Zq1_5b; have Zq1_6b := am (pw_cell_below BX_1.out Zq1_6.out); clear Zq1_6; have Zq1_6 := Zq1_6b; clear Zq1_6b; have Zq1_7b := am (pw_cell_below BX_1.out Zq1_7.out); clear Zq1_7; have Zq1_7 := Zq1_7b; clear Zq1_7b; have Zq1_8b := am (pw_cell_below BX_1.out Zq1_8.out); clear Zq1_8; have Zq1_8 := Zq1_8b; clear Zq1_8b; have Zq1_9b := am (pw_cell_below BX_1.out Zq1_9.out); clear Zq1_9; have Zq1_9 := Zq1_9b; clear Zq1_9b; have Zq1_10b := am (pw_cell_below BX_1.out Zq1_10.out); clear Zq1_10; have Zq1_10 := Zq1_10b; clear Zq1_10b; clear BX_1; have BX_1 := am (Below.refl w1.heap.size w1); have ZN := am MR; clear MR; clear hb)
    | ((with_reducible refine gate_dst (N := 19) rfl ?_); refine box_event ?hg (N := 19) ?hd (cs := #[.slice none 0 0, .slice none 0 0, .slice none 0 0, .slice none 0 0, .slice none 0 0, .slice none 0 0, .slice none 0 0, .int .i64 0, .slice none 0 0, .slice none 0 0, .slice none 0 0]) (t := 33) ?hr ?_; (case hd => rfl); (case hg => rfl); (case hr => first | (go_simp; done) | (go_simp; rfl)); intro q2 hgq2 w2 hA hb; have Jq2 := am hA; have Mq2 := am (show W.heap.size ≤ q2 by have := BW_1.out.size; omega); have MXq2 := am (show w1.heap.size ≤ q2 by have := BX_1.out.size; omega); have BW_2 := am (BW_1.out.trans (hb.mono BW_1.out.size)); clear BW_1; have BX_2 := am (BX_1.out.trans (hb.mono BX_1.out.size)); clear BX_1; clear hA hb hgq2)
    | ((with_reducible refine gate_store (p := 19) rfl ?_); refine storeRow_event (g := q2) rfl rfl rfl (cs := #[.slice B0 m.types.length d0, .slice B1 m.imports.length d1, .slice B2 m.funcs.length d2, .slice B3 m.tables.length d3, .slice B4 m.mems.length d4, .slice B5 m.globals.length d5, .slice B6 m.exports.length d6, .int .i64 m.start, .slice B8 m.elems.length d8, .slice B9 m.codes.length d9, .slice B10 m.datas.length d10]) rfl rfl Jq2.out (by kernel_rfl) rfl (by simp [Value.oneCell']) ?_; intro w3 hA hb ho hs; have BW_3 := am (hb _ _ Mq2.out BW_2.out); clear BW_2; have BX_3 := am (hb _ _ MXq2.out BX_2.out); clear BX_2; clear Jq2 Mq2 MXq2; have Zq1_0b := am (pw_cell_below BX_3.out Zq1_0.out); clear Zq1_0; have Zq1_0 := Zq1_0b; clear Zq1_0b; have Zq1_1b := am (pw_cell_below BX_3.out Zq1_1.out); clear Zq1_1; have Zq1_1 := Zq1_1b; clear Zq1_1b; have Zq1_2b := am (pw_cell_below BX_3.out Zq1_2.out); clear Zq1_2; have Zq1_2 := Zq1_2b; clear Zq1_2b; have Zq1_3b := am (pw_cell_below BX_3.out Zq1_3.out); clear Zq1_3; have Zq1_3 := Zq1_3b; clear Zq1_3b; have Zq1_4b := am (pw_cell_below BX_3.out Zq1_4.out); clear Zq1_4; have Zq1_4 := Zq1_4b; clear Zq1_4b; have Zq1_5b := am (pw_cell_below BX_3.out Zq1_5.out); clear Zq1_5; have Zq1_5 := Zq1_5b; clear Zq1_5b; have Zq1_6b := am (pw_cell_below BX_3.out Zq1_6.out); clear Zq1_6; have Zq1_6 := Zq1_6b; clear Zq1_6b; have Zq1_7b := am (pw_cell_below BX_3.out Zq1_7.out); clear Zq1_7; have Zq1_7 := Zq1_7b; clear Zq1_7b; have Zq1_8b := am (pw_cell_below BX_3.out Zq1_8.out); clear Zq1_8; have Zq1_8 := Zq1_8b; clear Zq1_8b; have Zq1_9b := am (pw_cell_below BX_3.out Zq1_9.out); clear Zq1_9; have Zq1_9 := Zq1_9b; clear Zq1_9b; have Zq1_10b := am (pw_cell_below BX_3.out Zq1_10.out); clear Zq1_10; have Zq1_10 := Zq1_10b; clear Zq1_10b; have ZMb := am (ZM.out.below BX_3.out); clear ZM; have ZM := ZMb; clear ZMb; have ZNb := am (ZN.out.below BX_3.out); clear ZN; have ZN := ZNb; clear ZNb; clear BX_3; have BX_3 := am (Below.refl w3.heap.size w3); have Zq2_0 := am (show w3.cell? ⟨q2, 0, none⟩ = some (.slice B0 m.types.length d0) from blk_cell hA 0); have Zq2_1 := am (show w3.cell? ⟨q2, 1, none⟩ = some (.slice B1 m.imports.length d1) from blk_cell hA 1); have Zq2_2 := am (show w3.cell? ⟨q2, 2, none⟩ = some (.slice B2 m.funcs.length d2) from blk_cell hA 2); have Zq2_3 := am (show w3.cell? ⟨q2, 3, none⟩ = some (.slice B3 m.tables.length d3) from blk_cell hA 3); have Zq2_4 := am (show w3.cell? ⟨q2, 4, none⟩ = some (.slice B4 m.mems.length d4) from blk_cell hA 4); have Zq2_5 := am (show w3.cell? ⟨q2, 5, none⟩ = some (.slice B5 m.globals.length d5) from blk_cell hA 5); have Zq2_6 := am (show w3.cell? ⟨q2, 6, none⟩ = some (.slice B6 m.exports.length d6) from blk_cell hA 6); have Zq2_7 := am (show w3.cell? ⟨q2, 7, none⟩ = some (.int .i64 m.start) from blk_cell hA 7); have Zq2_8 := am (show w3.cell? ⟨q2, 8, none⟩ = some (.slice B8 m.elems.length d8) from blk_cell hA 8); have Zq2_9 := am (show w3.cell? ⟨q2, 9, none⟩ = some (.slice B9 m.codes.length d9) from blk_cell hA 9); have Zq2_10 := am (show w3.cell? ⟨q2, 10, none⟩ = some (.slice B10 m.datas.length d10) from blk_cell hA 10); clear hA hb ho hs)
    | (go_at_call 14; (with_reducible refine (num_is _ (Below.refl w3.heap.size w3)).mono ?_); rintro e w4 ⟨rfl, hb⟩; have BW_4 := am (BW_3.out.trans (hb.mono BW_3.out.size)); clear BW_3; have BX_4 := am (BX_3.out.trans (hb.mono BX_3.out.size)); clear BX_3; have yq1_0 : w4.cell? ⟨q1, 0, none⟩ = some (.slice A0 m.types.length c0) := pw_cell_below BX_4.out Zq1_0.out; have yq1_1 : w4.cell? ⟨q1, 1, none⟩ = some (.slice A1 m.imports.length c1) := pw_cell_below BX_4.out Zq1_1.out; have yq1_2 : w4.cell? ⟨q1, 2, none⟩ = some (.slice A2 m.funcs.length c2) := pw_cell_below BX_4.out Zq1_2.out; have yq1_3 : w4.cell? ⟨q1, 3, none⟩ = some (.slice A3 m.tables.length c3) := pw_cell_below BX_4.out Zq1_3.out; have yq1_4 : w4.cell? ⟨q1, 4, none⟩ = some (.slice A4 m.mems.length c4) := pw_cell_below BX_4.out Zq1_4.out; have yq1_5 : w4.cell? ⟨q1, 5, none⟩ = some (.slice A5 m.globals.length c5) := pw_cell_below BX_4.out Zq1_5.out; have yq1_6 : w4.cell? ⟨q1, 6, none⟩ = some (.slice A6 m.exports.length c6) := pw_cell_below BX_4.out Zq1_6.out; have yq1_7 : w4.cell? ⟨q1, 7, none⟩ = some (.int .i64 m.start) := pw_cell_below BX_4.out Zq1_7.out; have yq1_8 : w4.cell? ⟨q1, 8, none⟩ = some (.slice A8 m.elems.length c8) := pw_cell_below BX_4.out Zq1_8.out; have yq1_9 : w4.cell? ⟨q1, 9, none⟩ = some (.slice A9 m.codes.length c9) := pw_cell_below BX_4.out Zq1_9.out; have yq1_10 : w4.cell? ⟨q1, 10, none⟩ = some (.slice A10 m.datas.length c10) := pw_cell_below BX_4.out Zq1_10.out; have yq2_0 : w4.cell? ⟨q2, 0, none⟩ = some (.slice B0 m.types.length d0) := pw_cell_below BX_4.out Zq2_0.out; have yq2_1 : w4.cell? ⟨q2, 1, none⟩ = some (.slice B1 m.imports.length d1) := pw_cell_below BX_4.out Zq2_1.out; have yq2_2 : w4.cell? ⟨q2, 2, none⟩ = some (.slice B2 m.funcs.length d2) := pw_cell_below BX_4.out Zq2_2.out; have yq2_3 : w4.cell? ⟨q2, 3, none⟩ = some (.slice B3 m.tables.length d3) := pw_cell_below BX_4.out Zq2_3.out; have yq2_4 : w4.cell? ⟨q2, 4, none⟩ = some (.slice B4 m.mems.length d4) := pw_cell_below BX_4.out Zq2_4.out; have yq2_5 : w4.cell? ⟨q2, 5, none⟩ = some (.slice B5 m.globals.length d5) := pw_cell_below BX_4.out Zq2_5.out; have yq2_6 : w4.cell? ⟨q2, 6, none⟩ = some (.slice B6 m.exports.length d6) := pw_cell_below BX_4.out Zq2_6.out; have yq2_7 : w4.cell? ⟨q2, 7, none⟩ = some (.int .i64 m.start) := pw_cell_below BX_4.out Zq2_7.out; have yq2_8 : w4.cell? ⟨q2, 8, none⟩ = some (.slice B8 m.elems.length d8) := pw_cell_below BX_4.out Zq2_8.out; have yq2_9 : w4.cell? ⟨q2, 9, none⟩ = some (.slice B9 m.codes.length d9) := pw_cell_below BX_4.out Zq2_9.out; have yq2_10 : w4.cell? ⟨q2, 10, none⟩ = some (.slice B10 m.datas.length d10) := pw_cell_below BX_4.out Zq2_10.out; clear hb)
    | (go_at_call 16; (with_reducible refine (same_rd (ZN.out.below BX_4.out) (ZM.out.below BX_4.out)).mono ?_); rintro e w5 ⟨rfl, hb⟩; have BW_5 := am (BW_4.out.trans (hb.mono BW_4.out.size)); clear BW_4; have BX_5 := am (BX_4.out.trans (hb.mono BX_4.out.size)); clear BX_4; clear hb))
   go_ret
   exact ⟨rfl, BW_5.out⟩
theorem customs_calls (s nm ex : ByteArray) (a3 : Int) (W : World) (hz : s.size ≤ 140737488355328) (hzn : nm.size ≤ 140737488355328) (hze : ex.size ≤ 140737488355328) (hT : Tabs W) : Calls Tryd.prog 3 #[.string s, .string nm, .string ex, .int .i64 a3] W fun e w' => e = .returned (.bool true) ∧ Below W.heap.size W w' := by
 cases hE : dMod s with
 | error c => exact customs_er hE (bne_iff_ne.2 (nz_mod s c hE)) (beq_eq_false_iff_ne.2 (nz_mod s c hE)) W hz hzn hze hT
 | ok m =>
  by_cases h1 : 60000 < s.size
  ·exact customs_long hE h1 W hz hzn hze hT
  ·cases hm : nmay nm with
   | false => exact customs_name hE h1 hm W hz hzn hze hT
   | true =>
    by_cases h2 : 1000 < ex.size
    ·exact customs_much hE h1 hm h2 W hz hzn hze hT
    ·obtain ⟨_, _, _, _, _, hc⟩ := mod_parts hE
     exact customs_fine hE hc h1 hm h2 (and7 a3) (by omega) W hz hzn hze hT
end Go.Proofs.YtkdoijfjceeblaaDoor.EDec
