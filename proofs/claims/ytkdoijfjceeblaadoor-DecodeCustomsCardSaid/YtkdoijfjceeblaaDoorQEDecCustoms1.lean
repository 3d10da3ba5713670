/-
  What the claim leans on, cut to what is used (wip/tools/prune15.py): words, printed functions, walks.
-/
import Derived.Test.YtkdoijfjceeblaaDoorQF2
import Derived.Test.YtkdoijfjceeblaaDoorQEDecMRd
import Derived.Test.YtkdoijfjceeblaaDoorQEDecCuts
namespace Go.Proofs.YtkdoijfjceeblaaDoor.EDec
open Go Go.RowKit Go.Proofs.YtkdoijfjceeblaaDoor.F Go.Proofs.YtkdoijfjceeblaaDoorW.Hand Go.Proofs.YtkdoijfjceeblaaDoorW.PrintWords Go.Proofs.YtkdoijfjceeblaaDoorW.PrintLast Go.Proofs.YtkdoijfjceeblaaDoorW.PrintMore
open Go.Proofs.YtkdoijfjceeblaaDoor.LebGets (G)
open Go.Proofs.YtkdoijfjceeblaaDoor.ENames (Tabs tabs_below nget nmay)
open Go.Proofs.YtkdoijfjceeblaaDoor.EInstr (GRes pGet get_b ret_int wrap_bt)
set_option linter.unusedVariables false
set_option linter.unusedSimpArgs false
theorem may_c {s : ByteArray} {b : Bool} (h : nmay s = b) (hz : s.size ≤ 140737488355328) {W : World} (hT : Tabs W) : Calls Tryd.prog 15 #[.string s] W fun e w' => e = .returned (.bool b) ∧ Below W.heap.size W w' := by
 obtain ⟨k, hk⟩ := ENames.may_ev s hz
 have hk' := hk k (Nat.le_refl _)
 rw [h] at hk'
 exact (pelorusref12_NameMay.calls k s _ W hk').mono fun _ _ h => ⟨h.1, h.2.below⟩
theorem leb_w (x : Int) (W : World) : Calls Tryd.prog 17 #[.int .i64 x] W fun e w' => e = .returned (.string (lebS x)) ∧ Below W.heap.size W w' := leb_is x (Below.refl W.heap.size W)
set_option maxHeartbeats 8000000 in
set_option maxRecDepth 100000 in
theorem customs_er {s nm ex : ByteArray} {a3 : Int} {c : Int} (hE : dMod s = .error c) (hc : (c != 0) = true) (hc2 : (c == 0) = false) (W : World) (hz : s.size ≤ 140737488355328) (hzn : nm.size ≤ 140737488355328) (hze : ex.size ≤ 140737488355328) (hT : Tabs W) : Calls Tryd.prog 3 #[.string s, .string nm, .string ex, .int .i64 a3] W fun e w' => e = .returned (.bool true) ∧ Below W.heap.size W w' := by
 have HT := am hT
 have HZ := am hz
 have HZN := am hzn
 have BW_0 := am (Below.refl W.heap.size W)
 have E0 := am hE
 clear hE
 clear hT hz hzn hze
 go_enter Tryd.func3, Tryd.ntmps3
 go_wp2_with (first
  | (go_at_call 12; (with_reducible refine (awake_c (tabs_below HT.out BW_0.out) (Below.refl W.heap.size W)).mono ?_); rintro e w1 ⟨rfl, hb⟩; have BW_1 := am (BW_0.out.trans (hb.mono BW_0.out.size)); clear BW_0; clear hb)
  | (go_at_call 13; (with_reducible refine (mod_er_c E0.out (tabs_below HT.out BW_1.out) (Below.refl w1.heap.size w1)).mono ?_); rintro e w2 ⟨rfl, hb⟩; have BW_2 := am (BW_1.out.trans (hb.mono BW_1.out.size)); clear BW_1; clear hb)
  | ((with_reducible refine gate_dst (N := 9) rfl ?_); refine box_event ?hg (N := 9) ?hd (cs := #[.slice none 0 0, .slice none 0 0, .slice none 0 0, .slice none 0 0, .slice none 0 0, .slice none 0 0, .slice none 0 0, .int .i64 0, .slice none 0 0, .slice none 0 0, .slice none 0 0]) (t := 33) ?hr ?_; (case hd => rfl); (case hg => rfl); (case hr => first | (go_simp; done) | (go_simp; rfl)); intro q1 hgq1 w3 hA hb; have Jq1 := am hA; have Mq1 := am (show W.heap.size ≤ q1 by have := BW_2.out.size; omega); have BW_3 := am (BW_2.out.trans (hb.mono BW_2.out.size)); clear BW_2; clear hA hb hgq1)
  | ((with_reducible refine gate_store (p := 9) rfl ?_); refine storeRow_event (g := q1) rfl rfl rfl (cs := #[.slice none 0 0, .slice none 0 0, .slice none 0 0, .slice none 0 0, .slice none 0 0, .slice none 0 0, .slice none 0 0, .int .i64 0, .slice none 0 0, .slice none 0 0, .slice none 0 0]) rfl rfl Jq1.out (by kernel_rfl) rfl (by simp [Value.oneCell']) ?_; intro w4 hA hb ho hs; have BW_4 := am (hb _ _ Mq1.out BW_3.out); clear BW_3; clear Jq1 Mq1; have BX_4 := am (Below.refl w4.heap.size w4); have Zq1_0 := am (show w4.cell? ⟨q1, 0, none⟩ = some (.slice none 0 0) from blk_cell hA 0); have Zq1_1 := am (show w4.cell? ⟨q1, 1, none⟩ = some (.slice none 0 0) from blk_cell hA 1); have Zq1_2 := am (show w4.cell? ⟨q1, 2, none⟩ = some (.slice none 0 0) from blk_cell hA 2); have Zq1_3 := am (show w4.cell? ⟨q1, 3, none⟩ = some (.slice none 0 0) from blk_cell hA 3); have Zq1_4 := am (show w4.cell? ⟨q1, 4, none⟩ = some (.slice none 0 0) from blk_cell hA 4); have Zq1_5 := am (show w4.cell? ⟨q1, 5, none⟩ = some (.slice none 0 0) from blk_cell hA 5); have Zq1_6 := am (show w4.cell? ⟨q1, 6, none⟩ = some (.slice none 0 0) from blk_cell hA 6); have Zq1_7 := am (show w4.cell? ⟨q1, 7, none⟩ = some (.int .i64 0) from blk_cell hA 7); have Zq1_8 := am (show w4.cell? ⟨q1, 8, none⟩ = some (.slice none 0 0) from blk_cell hA 8); have Zq1_9 := am (show w4.cell? ⟨q1, 9, none⟩ = some (.slice none 0 0) from blk_cell hA 9); have Zq1_10 := am (show w4.cell? ⟨q1, 10, none⟩ = some (.slice none 0 0) from blk_cell hA 10); clear hA hb ho hs)
  | (go_at_call 14; (with_reducible refine (num_is _ (Below.refl w4.heap.size w4)).mono ?_); rintro e w5 ⟨rfl, hb⟩; have BW_5 := am (BW_4.out.trans (hb.mono BW_4.out.size)); clear BW_4; have BX_5 := am (BX_4.out.trans (hb.mono BX_4.out.size)); clear BX_4; clear hb)
  | (go_at_call 14; (with_reducible refine (num_is _ (Below.refl w5.heap.size w5)).mono ?_); rintro e w6 ⟨rfl, hb⟩; have BW_6 := am (BW_5.out.trans (hb.mono BW_5.out.size)); clear BW_5; have BX_6 := am (BX_5.out.trans (hb.mono BX_5.out.size)); clear BX_5; have yq1_0 : w6.cell? ⟨q1, 0, none⟩ = some (.slice none 0 0) := pw_cell_below BX_6.out Zq1_0.out; have yq1_1 : w6.cell? ⟨q1, 1, none⟩ = some (.slice none 0 0) := pw_cell_below BX_6.out Zq1_1.out; have yq1_2 : w6.cell? ⟨q1, 2, none⟩ = some (.slice none 0 0) := pw_cell_below BX_6.out Zq1_2.out; have yq1_3 : w6.cell? ⟨q1, 3, none⟩ = some (.slice none 0 0) := pw_cell_below BX_6.out Zq1_3.out; have yq1_4 : w6.cell? ⟨q1, 4, none⟩ = some (.slice none 0 0) := pw_cell_below BX_6.out Zq1_4.out; have yq1_5 : w6.cell? ⟨q1, 5, none⟩ = some (.slice none 0 0) := pw_cell_below BX_6.out Zq1_5.out; have yq1_6 : w6.cell? ⟨q1, 6, none⟩ = some (.slice none 0 0) := pw_cell_below BX_6.out Zq1_6.out; have yq1_7 : w6.cell? ⟨q1, 7, none⟩ = some (.int .i64 0) := pw_cell_below BX_6.out Zq1_7.out; have yq1_8 : w6.cell? ⟨q1, 8, none⟩ = some (.slice none 0 0) := pw_cell_below BX_6.out Zq1_8.out; have yq1_9 : w6.cell? ⟨q1, 9, none⟩ = some (.slice none 0 0) := pw_cell_below BX_6.out Zq1_9.out; have yq1_10 : w6.cell? ⟨q1, 10, none⟩ = some (.slice none 0 0) := pw_cell_below BX_6.out Zq1_10.out; clear hb)
  | (go_at_call 16; (with_reducible refine (samez_is (Below.refl w6.heap.size w6)).mono ?_); rintro e w7 ⟨rfl, hb⟩; have BW_7 := am (BW_6.out.trans (hb.mono BW_6.out.size)); clear BW_6; have BX_7 := am (BX_6.out.trans (hb.mono BX_6.out.size)); clear BX_6; clear hb))
 go_ret
 exact ⟨rfl, BW_7.out⟩
set_option maxHeartbeats 8000000 in
set_option maxRecDepth 100000 in
theorem customs_long {s nm ex : ByteArray} {a3 : Int} {m : Mod} (hE : dMod s = .ok m) (h : 60000 < s.size) (W : World) (hz : s.size ≤ 140737488355328) (hzn : nm.size ≤ 140737488355328) (hze : ex.size ≤ 140737488355328) (hT : Tabs W) : Calls Tryd.prog 3 #[.string s, .string nm, .string ex, .int .i64 a3] W fun e w' => e = .returned (.bool true) ∧ Below W.heap.size W w' := by
 have HT := am hT
 have HZ := am hz
 have HZN := am hzn
 have BW_0 := am (Below.refl W.heap.size W)
 have E0 := am hE
 have d0 : decide ((60000 : Int) < (s.size : Int)) = true := decide_eq_true (by omega)
 have d1 : decide (60000 < s.size) = true := decide_eq_true (by omega)
 clear hE h
 clear hT hz hzn hze
 go_enter Tryd.func3, Tryd.ntmps3
 go_wp2_with (first
  | (go_at_call 12; (with_reducible refine (awake_c (tabs_below HT.out BW_0.out) (Below.refl W.heap.size W)).mono ?_); rintro e w1 ⟨rfl, hb⟩; have BW_1 := am (BW_0.out.trans (hb.mono BW_0.out.size)); clear BW_0; clear hb)
  | (go_at_call 13; (with_reducible refine (mod_ok_b E0.out (tabs_below HT.out BW_1.out)).mono ?_); rintro e w2 ⟨A0, c0, A1, c1, A2, c2, A3, c3, A4, c4, A5, c5, A6, c6, A8, c8, A9, c9, A10, c10, rfl, hb⟩; have BW_2 := am (BW_1.out.trans (hb.mono BW_1.out.size)); clear BW_1; clear hb)
  | ((with_reducible refine gate_dst (N := 9) rfl ?_); refine box_event ?hg (N := 9) ?hd (cs := #[.slice none 0 0, .slice none 0 0, .slice none 0 0, .slice none 0 0, .slice none 0 0, .slice none 0 0, .slice none 0 0, .int .i64 0, .slice none 0 0, .slice none 0 0, .slice none 0 0]) (t := 33) ?hr ?_; (case hd => rfl); (case hg => rfl); (case hr => first | (go_simp; done) | (go_simp; rfl)); intro q1 hgq1 w3 hA hb; have Jq1 := am hA; have Mq1 := am (show W.heap.size ≤ q1 by have := BW_2.out.size; omega); have BW_3 := am (BW_2.out.trans (hb.mono BW_2.out.size)); clear BW_2; clear hA hb hgq1)
  | ((with_reducible refine gate_store (p := 9) rfl ?_); refine storeRow_event (g := q1) rfl rfl rfl (cs := #[.slice A0 m.types.length c0, .slice A1 m.imports.length c1, .slice A2 m.funcs.length c2, .slice A3 m.tables.length c3, .slice A4 m.mems.length c4, .slice A5 m.globals.length c5, .slice A6 m.exports.length c6, .int .i64 m.start, .slice A8 m.elems.length c8, .slice A9 m.codes.length c9, .slice A10 m.datas.length c10]) rfl rfl Jq1.out (by kernel_rfl) rfl (by simp [Value.oneCell']) ?_; intro w4 hA hb ho hs; have BW_4 := am (hb _ _ Mq1.out BW_3.out); clear BW_3; clear Jq1 Mq1; clear hA hb ho hs)
  | (go_at_call 14; (with_reducible refine (num_is _ (Below.refl w4.heap.size w4)).mono ?_); rintro e w5 ⟨rfl, hb⟩; have BW_5 := am (BW_4.out.trans (hb.mono BW_4.out.size)); clear BW_4; clear hb)
  | (go_at_call 14; (with_reducible refine (num_is _ (Below.refl w5.heap.size w5)).mono ?_); rintro e w6 ⟨rfl, hb⟩; have BW_6 := am (BW_5.out.trans (hb.mono BW_5.out.size)); clear BW_5; clear hb)
  | (go_at_call 14; (with_reducible refine (num_is _ (Below.refl w6.heap.size w6)).mono ?_); rintro e w7 ⟨rfl, hb⟩; have BW_7 := am (BW_6.out.trans (hb.mono BW_6.out.size)); clear BW_6; clear hb))
 go_ret
 exact ⟨rfl, BW_7.out⟩
set_option maxHeartbeats 8000000 in
set_option maxRecDepth 100000 in
theorem customs_name {s nm ex : ByteArray} {a3 : Int} {m : Mod} (hE : dMod s = .ok m) (h : ¬ 60000 < s.size) (hm : nmay nm = false) (W : World) (hz : s.size ≤ 140737488355328) (hzn : nm.size ≤ 140737488355328) (hze : ex.size ≤ 140737488355328) (hT : Tabs W) : Calls Tryd.prog 3 #[.string s, .string nm, .string ex, .int .i64 a3] W fun e w' => e = .returned (.bool true) ∧ Below W.heap.size W w' := by
 have HT := am hT
 have HZ := am hz
 have HZN := am hzn
 have BW_0 := am (Below.refl W.heap.size W)
 have E0 := am hE
 have HM := am hm
 have d0 : decide ((60000 : Int) < (s.size : Int)) = false := decide_eq_false (by omega)
 have d1 : decide (60000 < s.size) = false := decide_eq_false (by omega)
 clear hE h hm
 clear hT hz hzn hze
 go_enter Tryd.func3, Tryd.ntmps3
 go_wp2_with (first
  | (go_at_call 12; (with_reducible refine (awake_c (tabs_below HT.out BW_0.out) (Below.refl W.heap.size W)).mono ?_); rintro e w1 ⟨rfl, hb⟩; have BW_1 := am (BW_0.out.trans (hb.mono BW_0.out.size)); clear BW_0; clear hb)
  | (go_at_call 13; (with_reducible refine (mod_ok_b E0.out (tabs_below HT.out BW_1.out)).mono ?_); rintro e w2 ⟨A0, c0, A1, c1, A2, c2, A3, c3, A4, c4, A5, c5, A6, c6, A8, c8, A9, c9, A10, c10, rfl, hb⟩; have BW_2 := am (BW_1.out.trans (hb.mono BW_1.out.size)); clear BW_1; clear hb)
  | ((with_reducible refine gate_dst (N := 9) rfl ?_); refine box_event ?hg (N := 9) ?hd (cs := #[.slice none 0 0, .slice none 0 0, .slice none 0 0, .slice none 0 0, .slice none 0 0, .slice none 0 0, .slice none 0 0, .int .i64 0, .slice none 0 0, .slice none 0 0, .slice none 0 0]) (t := 33) ?hr ?_; (case hd => rfl); (case hg => rfl); (case hr => first | (go_simp; done) | (go_simp; rfl)); intro q1 hgq1 w3 hA hb; have Jq1 := am hA; have Mq1 := am (show W.heap.size ≤ q1 by have := BW_2.out.size; omega); have BW_3 := am (BW_2.out.trans (hb.mono BW_2.out.size)); clear BW_2; clear hA hb hgq1)
  | ((with_reducible refine gate_store (p := 9) rfl ?_); refine storeRow_event (g := q1) rfl rfl rfl (cs := #[.slice A0 m.types.length c0, .slice A1 m.imports.length c1, .slice A2 m.funcs.length c2, .slice A3 m.tables.length c3, .slice A4 m.mems.length c4, .slice A5 m.globals.length c5, .slice A6 m.exports.length c6, .int .i64 m.start, .slice A8 m.elems.length c8, .slice A9 m.codes.length c9, .slice A10 m.datas.length c10]) rfl rfl Jq1.out (by kernel_rfl) rfl (by simp [Value.oneCell']) ?_; intro w4 hA hb ho hs; have BW_4 := am (hb _ _ Mq1.out BW_3.out); clear BW_3; clear Jq1 Mq1; clear hA hb ho hs)
  | (go_at_call 14; (with_reducible refine (num_is _ (Below.refl w4.heap.size w4)).mono ?_); rintro e w5 ⟨rfl, hb⟩; have BW_5 := am (BW_4.out.trans (hb.mono BW_4.out.size)); clear BW_4; clear hb)
  | (go_at_call 15; (with_reducible refine (may_c HM.out HZN.out (tabs_below HT.out BW_5.out)).mono ?_); rintro e w6 ⟨rfl, hb⟩; have BW_6 := am (BW_5.out.trans (hb.mono BW_5.out.size)); clear BW_5; clear hb)
  | (go_at_call 14; (with_reducible refine (num_is _ (Below.refl w6.heap.size w6)).mono ?_); rintro e w7 ⟨rfl, hb⟩; have BW_7 := am (BW_6.out.trans (hb.mono BW_6.out.size)); clear BW_6; clear hb)
  | (go_at_call 14; (with_reducible refine (num_is _ (Below.refl w7.heap.size w7)).mono ?_); rintro e w8 ⟨rfl, hb⟩; have BW_8 := am (BW_7.out.trans (hb.mono BW_7.out.size)); clear BW_7; clear hb))
 go_ret
 exact ⟨rfl, BW_8.out⟩
set_option maxHeartbeats 8000000 in
set_option maxRecDepth 100000 in
theorem customs_much {s nm ex : ByteArray} {a3 : Int} {m : Mod} (hE : dMod s = .ok m) (h : ¬ 60000 < s.size) (hm : nmay nm = true) (he : 1000 < ex.size) (W : World) (hz : s.size ≤ 140737488355328) (hzn : nm.size ≤ 140737488355328) (hze : ex.size ≤ 140737488355328) (hT : Tabs W) : Calls Tryd.prog 3 #[.string s, .string nm, .string ex, .int .i64 a3] W fun e w' => e = .returned (.bool true) ∧ Below W.heap.size W w' := by
 have HT := am hT
 have HZ := am hz
 have HZN := am hzn
 have BW_0 := am (Below.refl W.heap.size W)
 have E0 := am hE
 have HM := am hm
 have d0 : decide ((60000 : Int) < (s.size : Int)) = false := decide_eq_false (by omega)
 have d1 : decide (60000 < s.size) = false := decide_eq_false (by omega)
 have e0 : decide ((1000 : Int) < (ex.size : Int)) = true := decide_eq_true (by omega)
 have e1 : decide (1000 < ex.size) = true := decide_eq_true (by omega)
 clear hE h hm he
 clear hT hz hzn hze
 go_enter Tryd.func3, Tryd.ntmps3
 go_wp2_with (first
  | (go_at_call 12; (with_reducible refine (awake_c (tabs_below HT.out BW_0.out) (Below.refl W.heap.size W)).mono ?_); rintro e w1 ⟨rfl, hb⟩; have BW_1 := am (BW_0.out.trans (hb.mono BW_0.out.size)); clear BW_0; clear hb)
  | (go_at_call 13; (with_reducible refine (mod_ok_b E0.out (tabs_below HT.out BW_1.out)).mono ?_); rintro e w2 ⟨A0, c0, A1, c1, A2, c2, A3, c3, A4, c4, A5, c5, A6, c6, A8, c8, A9, c9, A10, c10, rfl, hb⟩; have BW_2 := am (BW_1.out.trans (hb.mono BW_1.out.size)); clear BW_1; clear hb)
  | ((with_reducible refine gate_dst (N := 9) rfl ?_); refine box_event ?hg (N := 9) ?hd (cs := #[.slice none 0 0, .slice none 0 0, .slice none 0 0, .slice none 0 0, .slice none 0 0, .slice none 0 0, .slice none 0 0, .int .i64 0, .slice none 0 0, .slice none 0 0, .slice none 0 0]) (t := 33) ?hr ?_; (case hd => rfl); (case hg => rfl); (case hr => first | (go_simp; done) | (go_simp; rfl)); intro q1 hgq1 w3 hA hb; have Jq1 := am hA; have Mq1 := am (show W.heap.size ≤ q1 by have := BW_2.out.size; omega); have BW_3 := am (BW_2.out.trans (hb.mono BW_2.out.size)); clear BW_2; clear hA hb hgq1)
  | ((with_reducible refine gate_store (p := 9) rfl ?_); refine storeRow_event (g := q1) rfl rfl rfl (cs := #[.slice A0 m.types.length c0, .slice A1 m.imports.length c1, .slice A2 m.funcs.length c2, .slice A3 m.tables.length c3, .slice A4 m.mems.length c4, .slice A5 m.globals.length c5, .slice A6 m.exports.length c6, .int .i64 m.start, .slice A8 m.elems.length c8, .slice A9 m.codes.length c9, .slice A10 m.datas.length c10]) rfl rfl Jq1.out (by kernel_rfl) rfl (by simp [Value.oneCell']) ?_; intro w4 hA hb ho hs; have BW_4 := am (hb _ _ Mq1.out BW_3.out); clear BW_3; clear Jq1 Mq1; clear hA hb ho hs)
  | (go_at_call 14; (with_reducible refine (num_is _ (Below.refl w4.heap.size w4)).mono ?_); rintro e w5 ⟨rfl, hb⟩; have BW_5 := am (BW_4.out.trans (hb.mono BW_4.out.size)); clear BW_4; clear hb)
  | (go_at_call 15; (with_reducible refine (may_c HM.out HZN.out (tabs_below HT.out BW_5.out)).mono ?_); rintro e w6 ⟨rfl, hb⟩; have BW_6 := am (BW_5.out.trans (hb.mono BW_5.out.size)); clear BW_5; clear hb)
  | (go_at_call 14; (with_reducible refine (num_is _ (Below.refl w6.heap.size w6)).mono ?_); rintro e w7 ⟨rfl, hb⟩; have BW_7 := am (BW_6.out.trans (hb.mono BW_6.out.size)); clear BW_6; clear hb)
  | (go_at_call 14; (with_reducible refine (num_is _ (Below.refl w7.heap.size w7)).mono ?_); rintro e w8 ⟨rfl, hb⟩; have BW_8 := am (BW_7.out.trans (hb.mono BW_7.out.size)); clear BW_7; clear hb))
 go_ret
 exact ⟨rfl, BW_8.out⟩
end Go.Proofs.YtkdoijfjceeblaaDoor.EDec
