/-
  What the claim leans on, in the order of its making: words about values and worlds, the printed functions, the decoder in plain words and its walk. Cut to what is used by wip/tools/prune15.py. (EDecCuts)
-/
import Derived.Test.YtkdoijfjceeblaaDoorQF2
import Derived.Test.YtkdoijfjceeblaaDoorQEDecNZ
import Derived.Test.YtkdoijfjceeblaaDoorQEDecZ
namespace Go.Proofs.YtkdoijfjceeblaaDoor.EDec
open Go Go.RowKit Go.Proofs.YtkdoijfjceeblaaDoor.F Go.Proofs.YtkdoijfjceeblaaDoorW.Hand Go.Proofs.YtkdoijfjceeblaaDoorW.PrintWords Go.Proofs.YtkdoijfjceeblaaDoorW.PrintLast Go.Proofs.YtkdoijfjceeblaaDoorW.PrintMore
open Go.Proofs.YtkdoijfjceeblaaDoor.LebGets (G)
open Go.Proofs.YtkdoijfjceeblaaDoor.ENames (Tabs tabs_below nget nmay)
open Go.Proofs.YtkdoijfjceeblaaDoor.EInstr (GRes pGet get_b ret_int wrap_bt)
set_option linter.unusedVariables false
set_option linter.unusedSimpArgs false
theorem unleb_is (s : ByteArray) (a : Int) (hz : s.size ≤ 140737488355328) (W : World) : Calls Tryd.prog 18 #[.string s, .int .i64 a, .int .i64 32] W fun e w' => e = .returned (.tuple #[.int .i64 (G s a 32).1, .int .i64 (G s a 32).2.1, .int .i64 (G s a 32).2.2]) ∧ Below W.heap.size W w' := by
  obtain ⟨k, hk⟩ := LebGets.unleb_ev s a 32 hz
  exact (pelorusref12_Unleb.calls k s a 32 _ _ _ W (hk k (Nat.le_refl _))).mono fun e w' h => ⟨h.1, h.2.below⟩
theorem unleb_ok {s : ByteArray} {a x y : Int} (h : G s a 32 = (x, y, 0)) (hz : s.size ≤ 140737488355328) (W : World) : Calls Tryd.prog 18 #[.string s, .int .i64 a, .int .i64 32] W fun e w' => e = .returned (.tuple #[.int .i64 x, .int .i64 y, .int .i64 0]) ∧ Below W.heap.size W w' := by
  have := unleb_is s a hz W
  rwa [h] at this
set_option maxHeartbeats 8000000 in
set_option maxRecDepth 100000 in
theorem cuts_er {s : ByteArray} {a1 c : Int} (hE : dMod s = .error c) (hc : (c != 0) = true) (W : World) (hz : s.size ≤ 140737488355328) (hT : Tabs W) : Calls Tryd.prog 4 #[.string s, .int .i64 a1] W fun e w' => e = .returned (.bool true) ∧ Below W.heap.size W w' := by
  have HT := Aside0.mk hT
  have HZ := Aside0.mk hz
  have BW_0 := Aside0.mk (Below.refl W.heap.size W)
  have E0 := Aside0.mk hE
  clear hE
  clear hT hz
  go_enter Tryd.func4, Tryd.ntmps4
  go_wp2_with (first
    | (go_at_call 12; (with_reducible refine (awake_c (tabs_below HT.out BW_0.out) (Below.refl W.heap.size W)).mono ?_); rintro e w1 ⟨rfl, hb⟩; have BW_1 := Aside0.mk (BW_0.out.trans (hb.mono BW_0.out.size)); clear BW_0; clear hb)
    | (go_at_call 13; (with_reducible refine (mod_er_c E0.out (tabs_below HT.out BW_1.out) (Below.refl w1.heap.size w1)).mono ?_); rintro e w2 ⟨rfl, hb⟩; have BW_2 := Aside0.mk (BW_1.out.trans (hb.mono BW_1.out.size)); clear BW_1; clear hb)
    | ((with_reducible refine gate_dst (N := 5) rfl ?_); refine box_event ?hg (N := 5) ?hd (cs := #[.slice none 0 0, .slice none 0 0, .slice none 0 0, .slice none 0 0, .slice none 0 0, .slice none 0 0, .slice none 0 0, .int .i64 0, .slice none 0 0, .slice none 0 0, .slice none 0 0]) (t := 33) ?hr ?_; (case hd => rfl); (case hg => rfl); (case hr => first | (go_simp; done) | (go_simp; rfl)); intro q1 hgq1 w3 hA hb; have Jq1 := Aside0.mk hA; have Mq1 := Aside0.mk (show W.heap.size ≤ q1 by have := BW_2.out.size; omega); have BW_3 := Aside0.mk (BW_2.out.trans (hb.mono BW_2.out.size)); clear BW_2; clear hA hb hgq1)
    | ((with_reducible refine gate_store (p := 5) rfl ?_); refine storeRow_event (g := q1) rfl rfl rfl (cs := #[.slice none 0 0, .slice none 0 0, .slice none 0 0, .slice none 0 0, .slice none 0 0, .slice none 0 0, .slice none 0 0, .int .i64 0, .slice none 0 0, .slice none 0 0, .slice none 0 0]) rfl rfl Jq1.out (by kernel_rfl) rfl (by simp [Value.oneCell']) ?_; intro w4 hA hb ho hs; have BW_4 := Aside0.mk (hb _ _ Mq1.out BW_3.out); clear BW_3; clear Jq1 Mq1; clear hA hb ho hs)
    | (go_at_call 14; (with_reducible refine (num_is _ (Below.refl w4.heap.size w4)).mono ?_); rintro e w5 ⟨rfl, hb⟩; have BW_5 := Aside0.mk (BW_4.out.trans (hb.mono BW_4.out.size)); clear BW_4; clear hb))
  go_ret
  exact ⟨rfl, BW_5.out⟩
theorem mod_ok_b {s : ByteArray} {m : Mod} (h : dMod s = .ok m) {W : World} (hT : Tabs W) : Calls Tryd.prog 13 #[.string s] W fun e w' => ∃ A0 c0 A1 c1 A2 c2 A3 c3 A4 c4 A5 c5 A6 c6 A8 c8 A9 c9 A10 c10, e = .returned (.tuple #[.agg #[.slice A0 m.types.length c0, .slice A1 m.imports.length c1, .slice A2 m.funcs.length c2, .slice A3 m.tables.length c3, .slice A4 m.mems.length c4, .slice A5 m.globals.length c5, .slice A6 m.exports.length c6, .int .i64 m.start, .slice A8 m.elems.length c8, .slice A9 m.codes.length c9, .slice A10 m.datas.length c10], .int .i64 0]) ∧ Below W.heap.size W w' := by
  refine (mod_ok_c h hT (Below.refl W.heap.size W)).mono ?_
  rintro e w' ⟨A0, c0, A1, c1, A2, c2, A3, c3, A4, c4, A5, c5, A6, c6, A8, c8, A9, c9, A10, c10, rfl, _, hb⟩
  exact ⟨A0, c0, A1, c1, A2, c2, A3, c3, A4, c4, A5, c5, A6, c6, A8, c8, A9, c9, A10, c10, rfl, hb⟩
set_option maxHeartbeats 8000000 in
set_option maxRecDepth 100000 in
theorem cuts_short {s : ByteArray} {a1 : Int} {m : Mod} (hE : dMod s = .ok m) (h8 : s.size ≤ 8) (W : World) (hz : s.size ≤ 140737488355328) (hT : Tabs W) : Calls Tryd.prog 4 #[.string s, .int .i64 a1] W fun e w' => e = .returned (.bool true) ∧ Below W.heap.size W w' := by
  have HT := Aside0.mk hT
  have HZ := Aside0.mk hz
  have BW_0 := Aside0.mk (Below.refl W.heap.size W)
  have E0 := Aside0.mk hE
  have d0 : decide ((s.size : Int) ≤ 8) = true := decide_eq_true (by omega)
  have d1 : decide (s.size ≤ 8) = true := decide_eq_true (by omega)
  clear hE h8
  clear hT hz
  go_enter Tryd.func4, Tryd.ntmps4
  go_wp2_with (first
    | (go_at_call 12; (with_reducible refine (awake_c (tabs_below HT.out BW_0.out) (Below.refl W.heap.size W)).mono ?_); rintro e w1 ⟨rfl, hb⟩; have BW_1 := Aside0.mk (BW_0.out.trans (hb.mono BW_0.out.size)); clear BW_0; clear hb)
    | (go_at_call 13; (with_reducible refine (mod_ok_b E0.out (tabs_below HT.out BW_1.out)).mono ?_); rintro e w2 ⟨A0, c0, A1, c1, A2, c2, A3, c3, A4, c4, A5, c5, A6, c6, A8, c8, A9, c9, A10, c10, rfl, hb⟩; have BW_2 := Aside0.mk (BW_1.out.trans (hb.mono BW_1.out.size)); clear BW_1; clear hb)
    | ((with_reducible refine gate_dst (N := 5) rfl ?_); refine box_event ?hg (N := 5) ?hd (cs := #[.slice none 0 0, .slice none 0 0, .slice none 0 0, .slice none 0 0, .slice none 0 0, .slice none 0 0, .slice none 0 0, .int .i64 0, .slice none 0 0, .slice none 0 0, .slice none 0 0]) (t := 33) ?hr ?_; (case hd => rfl); (case hg => rfl); (case hr => first | (go_simp; done) | (go_simp; rfl)); intro q1 hgq1 w3 hA hb; have Jq1 := Aside0.mk hA; have Mq1 := Aside0.mk (show W.heap.size ≤ q1 by have := BW_2.out.size; omega); have BW_3 := Aside0.mk (BW_2.out.trans (hb.mono BW_2.out.size)); clear BW_2; clear hA hb hgq1)
    | ((with_reducible refine gate_store (p := 5) rfl ?_); refine storeRow_event (g := q1) rfl rfl rfl (cs := #[.slice A0 m.types.length c0, .slice A1 m.imports.length c1, .slice A2 m.funcs.length c2, .slice A3 m.tables.length c3, .slice A4 m.mems.length c4, .slice A5 m.globals.length c5, .slice A6 m.exports.length c6, .int .i64 m.start, .slice A8 m.elems.length c8, .slice A9 m.codes.length c9, .slice A10 m.datas.length c10]) rfl rfl Jq1.out (by kernel_rfl) rfl (by simp [Value.oneCell']) ?_; intro w4 hA hb ho hs; have BW_4 := Aside0.mk (hb _ _ Mq1.out BW_3.out); clear BW_3; clear Jq1 Mq1; clear hA hb ho hs)
    | (go_at_call 14; (with_reducible refine (num_is _ (Below.refl w4.heap.size w4)).mono ?_); rintro e w5 ⟨rfl, hb⟩; have BW_5 := Aside0.mk (BW_4.out.trans (hb.mono BW_4.out.size)); clear BW_4; clear hb))
  go_ret
  exact ⟨rfl, BW_5.out⟩
set_option maxHeartbeats 8000000 in
set_option maxRecDepth 100000 in
theorem cuts_zero {s : ByteArray} {a1 y : Int} {m : Mod} (hE : dMod s = .ok m) (h8 : 8 < s.size) (hG : G s 9 32 = (0, y, 0)) (W : World) (hz : s.size ≤ 140737488355328) (hT : Tabs W) : Calls Tryd.prog 4 #[.string s, .int .i64 a1] W fun e w' => e = .returned (.bool true) ∧ Below W.heap.size W w' := by
  have HT := Aside0.mk hT
  have HZ := Aside0.mk hz
  have BW_0 := Aside0.mk (Below.refl W.heap.size W)
  have E0 := Aside0.mk hE
  have G0 := Aside0.mk hG
  have d0 : decide ((s.size : Int) ≤ 8) = false := decide_eq_false (by omega)
  have d1 : decide (s.size ≤ 8) = false := decide_eq_false (by omega)
  clear hE h8 hG
  clear hT hz
  go_enter Tryd.func4, Tryd.ntmps4
  go_wp2_with (first
    | (go_at_call 12; (with_reducible refine (awake_c (tabs_below HT.out BW_0.out) (Below.refl W.heap.size W)).mono ?_); rintro e w1 ⟨rfl, hb⟩; have BW_1 := Aside0.mk (BW_0.out.trans (hb.mono BW_0.out.size)); clear BW_0; clear hb)
    | (go_at_call 13; (with_reducible refine (mod_ok_b E0.out (tabs_below HT.out BW_1.out)).mono ?_); rintro e w2 ⟨A0, c0, A1, c1, A2, c2, A3, c3, A4, c4, A5, c5, A6, c6, A8, c8, A9, c9, A10, c10, rfl, hb⟩; have BW_2 := Aside0.mk (BW_1.out.trans (hb.mono BW_1.out.size)); clear BW_1; clear hb)
    | ((with_reducible refine gate_dst (N := 5) rfl ?_); refine box_event ?hg (N := 5) ?hd (cs := #[.slice none 0 0, .slice none 0 0, .slice none 0 0, .slice none 0 0, .slice none 0 0, .slice none 0 0, .slice none 0 0, .int .i64 0, .slice none 0 0, .slice none 0 0, .slice none 0 0]) (t := 33) ?hr ?_; (case hd => rfl); (case hg => rfl); (case hr => first | (go_simp; done) | (go_simp; rfl)); intro q1 hgq1 w3 hA hb; have Jq1 := Aside0.mk hA; have Mq1 := Aside0.mk (show W.heap.size ≤ q1 by have := BW_2.out.size; omega); have BW_3 := Aside0.mk (BW_2.out.trans (hb.mono BW_2.out.size)); clear BW_2; clear hA hb hgq1)
    | ((with_reducible refine gate_store (p := 5) rfl ?_); refine storeRow_event (g := q1) rfl rfl rfl (cs := #[.slice A0 m.types.length c0, .slice A1 m.imports.length c1, .slice A2 m.funcs.length c2, .slice A3 m.tables.length c3, .slice A4 m.mems.length c4, .slice A5 m.globals.length c5, .slice A6 m.exports.length c6, .int .i64 m.start, .slice A8 m.elems.length c8, .slice A9 m.codes.length c9, .slice A10 m.datas.length c10]) rfl rfl Jq1.out (by kernel_rfl) rfl (by simp [Value.oneCell']) ?_; intro w4 hA hb ho hs; have BW_4 := Aside0.mk (hb _ _ Mq1.out BW_3.out); clear BW_3; clear Jq1 Mq1; clear hA hb ho hs)
    | (go_at_call 14; (with_reducible refine (num_is _ (Below.refl w4.heap.size w4)).mono ?_); rintro e w5 ⟨rfl, hb⟩; have BW_5 := Aside0.mk (BW_4.out.trans (hb.mono BW_4.out.size)); clear BW_4; clear hb)
    | (go_at_call 18; (with_reducible refine (unleb_ok G0.out HZ.out w5).mono ?_); rintro e w6 ⟨rfl, hb⟩; have BW_6 := Aside0.mk (BW_5.out.trans (hb.mono BW_5.out.size)); clear BW_5; clear hb))
  go_ret
  exact ⟨rfl, BW_6.out⟩
set_option maxHeartbeats 8000000 in
set_option maxRecDepth 100000 in
theorem cuts_cut {s : ByteArray} {a1 x y : Int} {k j : Nat} {m : Mod} (hE : dMod s = .ok m) (h8 : 8 < s.size) (hG : G s 9 32 = (x, y, 0)) (rx : 0 < x ∧ x < 4294967296) (hk : wrap64 (y + wrap64 ((IntKind.u64.wrap a1).tmod x)) = (k : Int)) (hks : k ≤ s.size) (hj : wrap64 ((IntKind.u64.wrap a1).tmod 8) = (j : Int)) (hjs : j ≤ s.size) (h1 : dMod (s.extract 0 k) = .error 1501) (h2 : dMod (s.extract 0 j) = .error 1500) (W : World) (hz : s.size ≤ 140737488355328) (hT : Tabs W) : Calls Tryd.prog 4 #[.string s, .int .i64 a1] W fun e w' => e = .returned (.bool true) ∧ Below W.heap.size W w' := by
  have HT := Aside0.mk hT
  have HZ := Aside0.mk hz
  have BW_0 := Aside0.mk (Below.refl W.heap.size W)
  have E0 := Aside0.mk hE
  have G0 := Aside0.mk hG
  have E1 := Aside0.mk h1
  have E2 := Aside0.mk h2
  have HKK := Aside0.mk hk
  have HJJ := Aside0.mk hj
  clear hk hj
  have d0 : decide ((s.size : Int) ≤ 8) = false := decide_eq_false (by omega)
  have d1 : decide (s.size ≤ 8) = false := decide_eq_false (by omega)
  have x0 : (x == 0) = false := beq_eq_false_iff_ne.2 (by omega)
  have x1 : ¬ x = 0 := by omega
  have x2 : IntKind.u64.wrap x = x := by rw [LebMath.u64_eq]; omega
  have k0 : (0 : Int) ≤ (k : Int) := by omega
  have k1 : (k : Int) ≤ (s.size : Int) := by omega
  have j0 : (0 : Int) ≤ (j : Int) := by omega
  have j1 : (j : Int) ≤ (s.size : Int) := by omega
  have hk := HKK.out
  have hj := HJJ.out
  clear hE h8 hG h1 h2 HKK HJJ rx
  clear hT hz
  go_enter Tryd.func4, Tryd.ntmps4
  go_wp2_with (first
    | (go_at_call 12; (with_reducible refine (awake_c (tabs_below HT.out BW_0.out) (Below.refl W.heap.size W)).mono ?_); rintro e w1 ⟨rfl, hb⟩; have BW_1 := Aside0.mk (BW_0.out.trans (hb.mono BW_0.out.size)); clear BW_0; clear hb)
    | (go_at_call 13; (with_reducible refine (mod_ok_b E0.out (tabs_below HT.out BW_1.out)).mono ?_); rintro e w2 ⟨A0, c0, A1, c1, A2, c2, A3, c3, A4, c4, A5, c5, A6, c6, A8, c8, A9, c9, A10, c10, rfl, hb⟩; have BW_2 := Aside0.mk (BW_1.out.trans (hb.mono BW_1.out.size)); clear BW_1; clear hb)
    | ((with_reducible refine gate_dst (N := 5) rfl ?_); refine box_event ?hg (N := 5) ?hd (cs := #[.slice none 0 0, .slice none 0 0, .slice none 0 0, .slice none 0 0, .slice none 0 0, .slice none 0 0, .slice none 0 0, .int .i64 0, .slice none 0 0, .slice none 0 0, .slice none 0 0]) (t := 33) ?hr ?_; (case hd => rfl); (case hg => rfl); (case hr => first | (go_simp; done) | (go_simp; rfl)); intro q1 hgq1 w3 hA hb; have Jq1 := Aside0.mk hA; have Mq1 := Aside0.mk (show W.heap.size ≤ q1 by have := BW_2.out.size; omega); have BW_3 := Aside0.mk (BW_2.out.trans (hb.mono BW_2.out.size)); clear BW_2; clear hA hb hgq1)
    | ((with_reducible refine gate_store (p := 5) rfl ?_); refine storeRow_event (g := q1) rfl rfl rfl (cs := #[.slice A0 m.types.length c0, .slice A1 m.imports.length c1, .slice A2 m.funcs.length c2, .slice A3 m.tables.length c3, .slice A4 m.mems.length c4, .slice A5 m.globals.length c5, .slice A6 m.exports.length c6, .int .i64 m.start, .slice A8 m.elems.length c8, .slice A9 m.codes.length c9, .slice A10 m.datas.length c10]) rfl rfl Jq1.out (by kernel_rfl) rfl (by simp [Value.oneCell']) ?_; intro w4 hA hb ho hs; have BW_4 := Aside0.mk (hb _ _ Mq1.out BW_3.out); clear BW_3; clear Jq1 Mq1; clear hA hb ho hs)
    | (go_at_call 14; (with_reducible refine (num_is _ (Below.refl w4.heap.size w4)).mono ?_); rintro e w5 ⟨rfl, hb⟩; have BW_5 := Aside0.mk (BW_4.out.trans (hb.mono BW_4.out.size)); clear BW_4; clear hb)
    | (go_at_call 18; (with_reducible refine (unleb_ok G0.out HZ.out w5).mono ?_); rintro e w6 ⟨rfl, hb⟩; have BW_6 := Aside0.mk (BW_5.out.trans (hb.mono BW_5.out.size)); clear BW_5; clear hb)
    | (go_at_call 13; (with_reducible refine (mod_er_c E1.out (tabs_below HT.out BW_6.out) (Below.refl w6.heap.size w6)).mono ?_); rintro e w7 ⟨rfl, hb⟩; have BW_7 := Aside0.mk (BW_6.out.trans (hb.mono BW_6.out.size)); clear BW_6; clear hb)
    | ((with_reducible refine gate_dst (N := 11) rfl ?_); refine box_event ?hg (N := 11) ?hd (cs := #[.slice none 0 0, .slice none 0 0, .slice none 0 0, .slice none 0 0, .slice none 0 0, .slice none 0 0, .slice none 0 0, .int .i64 0, .slice none 0 0, .slice none 0 0, .slice none 0 0]) (t := 33) ?hr ?_; (case hd => rfl); (case hg => rfl); (case hr => first | (go_simp; done) | (go_simp; rfl)); intro q2 hgq2 w8 hA hb; have Jq2 := Aside0.mk hA; have Mq2 := Aside0.mk (show W.heap.size ≤ q2 by have := BW_7.out.size; omega); have BW_8 := Aside0.mk (BW_7.out.trans (hb.mono BW_7.out.size)); clear BW_7; clear hA hb hgq2)
    | ((with_reducible refine gate_store (p := 11) rfl ?_); refine storeRow_event (g := q2) rfl rfl rfl (cs := #[.slice none 0 0, .slice none 0 0, .slice none 0 0, .slice none 0 0, .slice none 0 0, .slice none 0 0, .slice none 0 0, .int .i64 0, .slice none 0 0, .slice none 0 0, .slice none 0 0]) rfl rfl Jq2.out (by kernel_rfl) rfl (by simp [Value.oneCell']) ?_; intro w9 hA hb ho hs; have BW_9 := Aside0.mk (hb _ _ Mq2.out BW_8.out); clear BW_8; clear Jq2 Mq2; have BX_9 := Aside0.mk (Below.refl w9.heap.size w9); have Zq2_0 := Aside0.mk (show w9.cell? ⟨q2, 0, none⟩ = some (.slice none 0 0) from blk_cell hA 0); have Zq2_1 := Aside0.mk (show w9.cell? ⟨q2, 1, none⟩ = some (.slice none 0 0) from blk_cell hA 1); have Zq2_2 := Aside0.mk (show w9.cell? ⟨q2, 2, none⟩ = some (.slice none 0 0) from blk_cell hA 2); have Zq2_3 := Aside0.mk (show w9.cell? ⟨q2, 3, none⟩ = some (.slice none 0 0) from blk_cell hA 3); have Zq2_4 := Aside0.mk (show w9.cell? ⟨q2, 4, none⟩ = some (.slice none 0 0) from blk_cell hA 4); have Zq2_5 := Aside0.mk (show w9.cell? ⟨q2, 5, none⟩ = some (.slice none 0 0) from blk_cell hA 5); have Zq2_6 := Aside0.mk (show w9.cell? ⟨q2, 6, none⟩ = some (.slice none 0 0) from blk_cell hA 6); have Zq2_7 := Aside0.mk (show w9.cell? ⟨q2, 7, none⟩ = some (.int .i64 0) from blk_cell hA 7); have Zq2_8 := Aside0.mk (show w9.cell? ⟨q2, 8, none⟩ = some (.slice none 0 0) from blk_cell hA 8); have Zq2_9 := Aside0.mk (show w9.cell? ⟨q2, 9, none⟩ = some (.slice none 0 0) from blk_cell hA 9); have Zq2_10 := Aside0.mk (show w9.cell? ⟨q2, 10, none⟩ = some (.slice none 0 0) from blk_cell hA 10); clear hA hb ho hs)
    | (go_at_call 13; (with_reducible refine (mod_er_c E2.out (tabs_below HT.out BW_9.out) (Below.refl w9.heap.size w9)).mono ?_); rintro e w10 ⟨rfl, hb⟩; have BW_10 := Aside0.mk (BW_9.out.trans (hb.mono BW_9.out.size)); clear BW_9; have BX_10 := Aside0.mk (BX_9.out.trans (hb.mono BX_9.out.size)); clear BX_9; clear hb)
    | ((with_reducible refine gate_dst (N := 13) rfl ?_); refine box_event ?hg (N := 13) ?hd (cs := #[.slice none 0 0, .slice none 0 0, .slice none 0 0, .slice none 0 0, .slice none 0 0, .slice none 0 0, .slice none 0 0, .int .i64 0, .slice none 0 0, .slice none 0 0, .slice none 0 0]) (t := 33) ?hr ?_; (case hd => rfl); (case hg => rfl); (case hr => first | (go_simp; done) | (go_simp; rfl)); intro q3 hgq3 w11 hA hb; have Jq3 := Aside0.mk hA; have Mq3 := Aside0.mk (show W.heap.size ≤ q3 by have := BW_10.out.size; omega); have MXq3 := Aside0.mk (show w9.heap.size ≤ q3 by have := BX_10.out.size; omega); have BW_11 := Aside0.mk (BW_10.out.trans (hb.mono BW_10.out.size)); clear BW_10; have BX_11 := Aside0.mk (BX_10.out.trans (hb.mono BX_10.out.size)); clear BX_10; clear hA hb hgq3)
    | ((with_reducible refine gate_store (p := 13) rfl ?_); refine storeRow_event (g := q3) rfl rfl rfl (cs := #[.slice none 0 0, .slice none 0 0, .slice none 0 0, .slice none 0 0, .slice none 0 0, .slice none 0 0, .slice none 0 0, .int .i64 0, .slice none 0 0, .slice none 0 0, .slice none 0 0]) rfl rfl Jq3.out (by kernel_rfl) rfl (by simp [Value.oneCell']) ?_; intro w12 hA hb ho hs; have BW_12 := Aside0.mk (hb _ _ Mq3.out BW_11.out); clear BW_11; have BX_12 := Aside0.mk (hb _ _ MXq3.out BX_11.out); clear BX_11; clear Jq3 Mq3 MXq3; clear hA hb ho hs)
    | (go_at_call 14; (with_reducible refine (num_is _ (Below.refl w12.heap.size w12)).mono ?_); rintro e w13 ⟨rfl, hb⟩; have BW_13 := Aside0.mk (BW_12.out.trans (hb.mono BW_12.out.size)); clear BW_12; have BX_13 := Aside0.mk (BX_12.out.trans (hb.mono BX_12.out.size)); clear BX_12; have yq2_0 : w13.cell? ⟨q2, 0, none⟩ = some (.slice none 0 0) := pw_cell_below BX_13.out Zq2_0.out; have yq2_1 : w13.cell? ⟨q2, 1, none⟩ = some (.slice none 0 0) := pw_cell_below BX_13.out Zq2_1.out; have yq2_2 : w13.cell? ⟨q2, 2, none⟩ = some (.slice none 0 0) := pw_cell_below BX_13.out Zq2_2.out; have yq2_3 : w13.cell? ⟨q2, 3, none⟩ = some (.slice none 0 0) := pw_cell_below BX_13.out Zq2_3.out; have yq2_4 : w13.cell? ⟨q2, 4, none⟩ = some (.slice none 0 0) := pw_cell_below BX_13.out Zq2_4.out; have yq2_5 : w13.cell? ⟨q2, 5, none⟩ = some (.slice none 0 0) := pw_cell_below BX_13.out Zq2_5.out; have yq2_6 : w13.cell? ⟨q2, 6, none⟩ = some (.slice none 0 0) := pw_cell_below BX_13.out Zq2_6.out; have yq2_7 : w13.cell? ⟨q2, 7, none⟩ = some (.int .i64 0) := pw_cell_below BX_13.out Zq2_7.out; have yq2_8 : w13.cell? ⟨q2, 8, none⟩ = some (.slice none 0 0) := pw_cell_below BX_13.out Zq2_8.out; have yq2_9 : w13.cell? ⟨q2, 9, none⟩ = some (.slice none 0 0) := pw_cell_below BX_13.out Zq2_9.out; have yq2_10 : w13.cell? ⟨q2, 10, none⟩ = some (.slice none 0 0) := pw_cell_below BX_13.out Zq2_10.out; clear hb)
    | (go_at_call 16; (with_reducible refine (samez_is (Below.refl w13.heap.size w13)).mono ?_); rintro e w14 ⟨rfl, hb⟩; have BW_14 := Aside0.mk (BW_13.out.trans (hb.mono BW_13.out.size)); clear BW_13; have BX_14 := Aside0.mk (BX_13.out.trans (hb.mono BX_13.out.size)); clear BX_13; clear hb)
    | (go_at_call 14; (with_reducible refine (num_is _ (Below.refl w14.heap.size w14)).mono ?_); rintro e w15 ⟨rfl, hb⟩; have BW_15 := Aside0.mk (BW_14.out.trans (hb.mono BW_14.out.size)); clear BW_14; have BX_15 := Aside0.mk (BX_14.out.trans (hb.mono BX_14.out.size)); clear BX_14; clear hb))
  go_ret
  exact ⟨rfl, BW_15.out⟩
theorem tm_rng (a x : Int) (h : 0 < x) (h2 : x < 4294967296) : 0 ≤ wrap64 ((IntKind.u64.wrap a).tmod x) ∧ wrap64 ((IntKind.u64.wrap a).tmod x) < x := by
  rw [LebMath.u64_eq, Int.tmod_eq_emod_of_nonneg (by omega)]
  have h0 := Int.emod_nonneg (a % 18446744073709551616) (show x ≠ 0 by omega)
  have h1 := Int.emod_lt_of_pos (a % 18446744073709551616) h
  generalize a % 18446744073709551616 % x = q at *
  have : wrap64 q = q := by unfold wrap64; omega
  rw [this]
  exact ⟨h0, h1⟩
theorem cuts_calls (s : ByteArray) (a1 : Int) (W : World) (hz : s.size ≤ 140737488355328) (hT : Tabs W) : Calls Tryd.prog 4 #[.string s, .int .i64 a1] W fun e w' => e = .returned (.bool true) ∧ Below W.heap.size W w' := by
  cases hE : dMod s with
  | error c => exact cuts_er hE (bne_iff_ne.2 (nz_mod s c hE)) W hz hT
  | ok m =>
    by_cases h8 : 8 < s.size
    · obtain ⟨x, y, hG, hy, hx, hs, hx2, hcut⟩ := cuts_of hE h8
      have hsz := (mod_parts hE).1
      by_cases h0 : x = 0
      · subst h0; exact cuts_zero hE h8 hG W hz hT
      · obtain ⟨r0, r1⟩ := tm_rng a1 x (by omega) hx2
        obtain ⟨j0, j1⟩ := tm_rng a1 8 (by omega) (by omega)
        obtain ⟨r, hr⟩ : ∃ r, wrap64 ((IntKind.u64.wrap a1).tmod x) = r := ⟨_, rfl⟩
        obtain ⟨j, hj⟩ : ∃ j, wrap64 ((IntKind.u64.wrap a1).tmod 8) = j := ⟨_, rfl⟩
        rw [hr] at r0 r1
        rw [hj] at j0 j1
        have hj2 : j = ((j.toNat : Nat) : Int) := by omega
        have hk2 : wrap64 (y + r) = (((y + r).toNat : Nat) : Int) := by clear hr hj; unfold wrap64; omega
        have zj : (s.extract 0 j.toNat).size = j.toNat := by rw [ext_sz s 0 _ (by clear hr hj; omega)]; omega
        exact cuts_cut hE h8 hG ⟨by clear hr hj; omega, hx2⟩ (k := (y + r).toNat) (j := j.toNat) (by rw [hr]; exact hk2) (by clear hr hj; omega) (by rw [hj]; exact hj2) (by clear hr hj; omega) (hcut _ (by clear hr hj; omega) (by clear hr hj; omega)) (cuts_magic (by clear hr hj; omega)) W hz hT
    · exact cuts_short hE (by omega) W hz hT
end Go.Proofs.YtkdoijfjceeblaaDoor.EDec
