/-
  What the claim leans on, in the order of its making: words about values and worlds, the printed functions, the decoder in plain words and its walk. Cut to what is used by wip/tools/prune15.py. (EDecTypes)
-/
import Derived.Test.YtkdoijfjceeblaaDoorQF
import Derived.Test.YtkdoijfjceeblaaDoorQEDecTypes0
namespace Go.Proofs.YtkdoijfjceeblaaDoor.EDec
open Go Go.RowKit Go.Proofs.YtkdoijfjceeblaaDoor.F Go.Proofs.YtkdoijfjceeblaaDoorW.Hand Go.Proofs.YtkdoijfjceeblaaDoorW.PrintWords Go.Proofs.YtkdoijfjceeblaaDoorW.PrintLast Go.Proofs.YtkdoijfjceeblaaDoorW.PrintMore
open Go.Proofs.YtkdoijfjceeblaaDoor.LebGets (G)
open Go.Proofs.YtkdoijfjceeblaaDoor.ENames (Tabs tabs_below nget nmay)
open Go.Proofs.YtkdoijfjceeblaaDoor.EInstr (GRes pGet get_b ret_int wrap_bt)
set_option linter.unusedVariables false
set_option linter.unusedSimpArgs false
theorem tS_size (f p q : Int) : (tS f p q).size = 6 := by rw [tS, str_size]; rfl
set_option maxHeartbeats 8000000 in
set_option maxRecDepth 100000 in
theorem types_er0 (a0 a1 a2 : Int) (f p q : Int) (hp : a0 % 256 = p) (hq : a1 % 256 = q) (e7 : (Go.bits .and .i64 a2 7 == 0) = false) (hc : (decide (124 ≤ p) = false) ∨ (decide (124 ≤ p) = true ∧ decide (p ≤ 127) = false) ∨ (decide (124 ≤ p) = true ∧ decide (p ≤ 127) = true ∧ decide (124 ≤ q) = false) ∨ (decide (124 ≤ p) = true ∧ decide (p ≤ 127) = true ∧ decide (124 ≤ q) = true ∧ decide (q ≤ 127) = false)) (he : dMod (({ data := #[0, 97, 115, 109, 1, 0, 0, 0] } : ByteArray) ++ secS 1 (tS 96 p q)) = .error 1506) (W : World) (hT : Tabs W) : Calls Tryd.prog 6 #[.int .i64 a0, .int .i64 a1, .int .i64 a2] W fun e w' => e = .returned (.bool true) ∧ Below W.heap.size W w' := by
  have ET := Aside0.mk he
  clear he
  have HT := Aside0.mk hT
  have HB0 := Aside0.mk (Below.refl W.heap.size W)
  have zt := tS_size 96 p q
  have SZ := Aside0.mk (show (tS 96 p q).size ≤ 140737488355328 by omega)
  have n1 := sum_ok (a := 8) (b := (secS 1 (tS 96 p q)).size) (by have := secS_size 1 (tS 96 p q); omega)
  clear hT zt
  rcases hc with b0 | ⟨b0, b1⟩ | ⟨b0, b1, b2⟩ | ⟨b0, b1, b2, b3⟩
  all_goals
    go_enter Tryd.func6, Tryd.ntmps6
    go_wp2_with (first
      | (go_at_call 12; (with_reducible refine (awake_c HT.out HB0.out).mono ?_); rintro e w1 ⟨rfl, hb⟩; have HB1 := Aside0.mk hb; clear hb HB0)
      | ((with_reducible refine gate_dst (N := 29) rfl ?_); refine lit_event ?hg (N := 29) ?hd (cs := #[.int .u8 1, .int .u8 96, .int .u8 1, .int .u8 p, .int .u8 1, .int .u8 q]) (t := 5) (n := 6) ?hr ?_; (case hd => rfl); (case hg => rfl); (case hr => first | (go_simp; done) | (go_simp; rfl)); intro q1 hgq1 w2 hA hb; have cq1 : (convert 48 9 (.slice (some ⟨q1, 0, none⟩) 6 6)).run Tryd.prog w2 = .ok (.string (tS 96 p q)) w2 := conv_lit (zs := [1, 96, 1, p, 1, q]) hA rfl; have HB2 := Aside0.mk (below_step HB1.out hb); clear hb HB1; clear hA hgq1)
      | (go_at_call 20; (with_reducible refine (section_is 1 (tS 96 p q) SZ.out HB2.out).mono ?_); rintro e w3 ⟨rfl, hb⟩; have HB3 := Aside0.mk hb; clear hb HB2)
      | (go_at_call 13; (with_reducible refine (mod_er_c ET.out HT.out HB3.out).mono ?_); rintro e w4 ⟨rfl, hb⟩; have HB4 := Aside0.mk hb; clear hb HB3)
      | ((with_reducible refine gate_dst (N := 10) rfl ?_); refine box_event ?hg (N := 10) ?hd (cs := #[.slice none 0 0, .slice none 0 0, .slice none 0 0, .slice none 0 0, .slice none 0 0, .slice none 0 0, .slice none 0 0, .int .i64 0, .slice none 0 0, .slice none 0 0, .slice none 0 0]) (t := 33) ?hr ?_; (case hd => rfl); (case hg => rfl); (case hr => first | (go_simp; done) | (go_simp; rfl)); intro q2 hgq2 w5 hA hb; have Jq2 := Aside0.mk hA; have Mq2 := Aside0.mk (show W.heap.size ≤ q2 by have := HB4.out.size; omega); have hb := HB4.out.trans (hb.mono HB4.out.size); have HB5 := Aside0.mk hb; clear hb HB4; clear hA hgq2)
      | ((with_reducible refine gate_store (p := 10) rfl ?_); refine storeRow_event (g := q2) rfl rfl rfl (cs := #[.slice none 0 0, .slice none 0 0, .slice none 0 0, .slice none 0 0, .slice none 0 0, .slice none 0 0, .slice none 0 0, .int .i64 0, .slice none 0 0, .slice none 0 0, .slice none 0 0]) rfl rfl Jq2.out (by kernel_rfl) rfl (by simp [Value.oneCell']) ?_; intro w6 hA hb ho hs; have hb := hb W.heap.size W Mq2.out HB5.out; have HB6 := Aside0.mk hb; clear hb HB5; have Kq2 := Aside0.mk hA; have yq2_0 : w6.cell? ⟨q2, 0, none⟩ = some (.slice none 0 0) := blk_cell hA 0; have yq2_1 : w6.cell? ⟨q2, 1, none⟩ = some (.slice none 0 0) := blk_cell hA 1; have yq2_2 : w6.cell? ⟨q2, 2, none⟩ = some (.slice none 0 0) := blk_cell hA 2; have yq2_3 : w6.cell? ⟨q2, 3, none⟩ = some (.slice none 0 0) := blk_cell hA 3; have yq2_4 : w6.cell? ⟨q2, 4, none⟩ = some (.slice none 0 0) := blk_cell hA 4; have yq2_5 : w6.cell? ⟨q2, 5, none⟩ = some (.slice none 0 0) := blk_cell hA 5; have yq2_6 : w6.cell? ⟨q2, 6, none⟩ = some (.slice none 0 0) := blk_cell hA 6; have yq2_7 : w6.cell? ⟨q2, 7, none⟩ = some (.int .i64 0) := blk_cell hA 7; have yq2_8 : w6.cell? ⟨q2, 8, none⟩ = some (.slice none 0 0) := blk_cell hA 8; have yq2_9 : w6.cell? ⟨q2, 9, none⟩ = some (.slice none 0 0) := blk_cell hA 9; have yq2_10 : w6.cell? ⟨q2, 10, none⟩ = some (.slice none 0 0) := blk_cell hA 10; clear hA ho hs Jq2 Mq2)
      | (go_at_call 14; (with_reducible refine (num_b _ HB6.out).mono ?_); rintro e w7 ⟨rfl, hb, hb0⟩; have Kq2b := Aside0.mk (blk_below' Kq2.out hb0); clear Kq2; have Kq2 := Kq2b; clear Kq2b yq2_0 yq2_1 yq2_2 yq2_3 yq2_4 yq2_5 yq2_6 yq2_7 yq2_8 yq2_9 yq2_10; have yq2_0 : w7.cell? ⟨q2, 0, none⟩ = some (.slice none 0 0) := blk_cell Kq2.out 0; have yq2_1 : w7.cell? ⟨q2, 1, none⟩ = some (.slice none 0 0) := blk_cell Kq2.out 1; have yq2_2 : w7.cell? ⟨q2, 2, none⟩ = some (.slice none 0 0) := blk_cell Kq2.out 2; have yq2_3 : w7.cell? ⟨q2, 3, none⟩ = some (.slice none 0 0) := blk_cell Kq2.out 3; have yq2_4 : w7.cell? ⟨q2, 4, none⟩ = some (.slice none 0 0) := blk_cell Kq2.out 4; have yq2_5 : w7.cell? ⟨q2, 5, none⟩ = some (.slice none 0 0) := blk_cell Kq2.out 5; have yq2_6 : w7.cell? ⟨q2, 6, none⟩ = some (.slice none 0 0) := blk_cell Kq2.out 6; have yq2_7 : w7.cell? ⟨q2, 7, none⟩ = some (.int .i64 0) := blk_cell Kq2.out 7; have yq2_8 : w7.cell? ⟨q2, 8, none⟩ = some (.slice none 0 0) := blk_cell Kq2.out 8; have yq2_9 : w7.cell? ⟨q2, 9, none⟩ = some (.slice none 0 0) := blk_cell Kq2.out 9; have yq2_10 : w7.cell? ⟨q2, 10, none⟩ = some (.slice none 0 0) := blk_cell Kq2.out 10; have HB7 := Aside0.mk hb; clear hb HB6; clear hb0)
      | (go_at_call 16; (with_reducible refine (samez_is HB7.out).mono ?_); rintro e w8 ⟨rfl, hb⟩; have HB8 := Aside0.mk hb; clear hb HB7))
    go_ret
    exact ⟨rfl, HB8.out⟩
set_option maxHeartbeats 8000000 in
set_option maxRecDepth 100000 in
theorem types_er1 (a0 a1 a2 : Int) (f p q : Int) (hp : a0 % 256 = p) (hq : a1 % 256 = q) (e7 : (Go.bits .and .i64 a2 7 == 0) = true) (hf : (a2 / 8) % 256 = f) (hc : ((f == 96) = false) ∨ ((f == 96) = true ∧ decide (124 ≤ p) = false) ∨ ((f == 96) = true ∧ decide (124 ≤ p) = true ∧ decide (p ≤ 127) = false) ∨ ((f == 96) = true ∧ decide (124 ≤ p) = true ∧ decide (p ≤ 127) = true ∧ decide (124 ≤ q) = false) ∨ ((f == 96) = true ∧ decide (124 ≤ p) = true ∧ decide (p ≤ 127) = true ∧ decide (124 ≤ q) = true ∧ decide (q ≤ 127) = false)) (he : dMod (({ data := #[0, 97, 115, 109, 1, 0, 0, 0] } : ByteArray) ++ secS 1 (tS f p q)) = .error 1506) (W : World) (hT : Tabs W) : Calls Tryd.prog 6 #[.int .i64 a0, .int .i64 a1, .int .i64 a2] W fun e w' => e = .returned (.bool true) ∧ Below W.heap.size W w' := by
  have ET := Aside0.mk he
  clear he
  have HT := Aside0.mk hT
  have HB0 := Aside0.mk (Below.refl W.heap.size W)
  have zt := tS_size f p q
  have SZ := Aside0.mk (show (tS f p q).size ≤ 140737488355328 by omega)
  have n1 := sum_ok (a := 8) (b := (secS 1 (tS f p q)).size) (by have := secS_size 1 (tS f p q); omega)
  clear hT zt
  rcases hc with b0 | ⟨b0, b1⟩ | ⟨b0, b1, b2⟩ | ⟨b0, b1, b2, b3⟩ | ⟨b0, b1, b2, b3, b4⟩
  all_goals
    go_enter Tryd.func6, Tryd.ntmps6
    go_wp2_with (first
      | (go_at_call 12; (with_reducible refine (awake_c HT.out HB0.out).mono ?_); rintro e w1 ⟨rfl, hb⟩; have HB1 := Aside0.mk hb; clear hb HB0)
      | ((with_reducible refine gate_dst (N := 29) rfl ?_); refine lit_event ?hg (N := 29) ?hd (cs := #[.int .u8 1, .int .u8 f, .int .u8 1, .int .u8 p, .int .u8 1, .int .u8 q]) (t := 5) (n := 6) ?hr ?_; (case hd => rfl); (case hg => rfl); (case hr => first | (go_simp; done) | (go_simp; rfl)); intro q1 hgq1 w2 hA hb; have cq1 : (convert 48 9 (.slice (some ⟨q1, 0, none⟩) 6 6)).run Tryd.prog w2 = .ok (.string (tS f p q)) w2 := conv_lit (zs := [1, f, 1, p, 1, q]) hA rfl; have HB2 := Aside0.mk (below_step HB1.out hb); clear hb HB1; clear hA hgq1)
      | (go_at_call 20; (with_reducible refine (section_is 1 (tS f p q) SZ.out HB2.out).mono ?_); rintro e w3 ⟨rfl, hb⟩; have HB3 := Aside0.mk hb; clear hb HB2)
      | (go_at_call 13; (with_reducible refine (mod_er_c ET.out HT.out HB3.out).mono ?_); rintro e w4 ⟨rfl, hb⟩; have HB4 := Aside0.mk hb; clear hb HB3)
      | ((with_reducible refine gate_dst (N := 10) rfl ?_); refine box_event ?hg (N := 10) ?hd (cs := #[.slice none 0 0, .slice none 0 0, .slice none 0 0, .slice none 0 0, .slice none 0 0, .slice none 0 0, .slice none 0 0, .int .i64 0, .slice none 0 0, .slice none 0 0, .slice none 0 0]) (t := 33) ?hr ?_; (case hd => rfl); (case hg => rfl); (case hr => first | (go_simp; done) | (go_simp; rfl)); intro q2 hgq2 w5 hA hb; have Jq2 := Aside0.mk hA; have Mq2 := Aside0.mk (show W.heap.size ≤ q2 by have := HB4.out.size; omega); have hb := HB4.out.trans (hb.mono HB4.out.size); have HB5 := Aside0.mk hb; clear hb HB4; clear hA hgq2)
      | ((with_reducible refine gate_store (p := 10) rfl ?_); refine storeRow_event (g := q2) rfl rfl rfl (cs := #[.slice none 0 0, .slice none 0 0, .slice none 0 0, .slice none 0 0, .slice none 0 0, .slice none 0 0, .slice none 0 0, .int .i64 0, .slice none 0 0, .slice none 0 0, .slice none 0 0]) rfl rfl Jq2.out (by kernel_rfl) rfl (by simp [Value.oneCell']) ?_; intro w6 hA hb ho hs; have hb := hb W.heap.size W Mq2.out HB5.out; have HB6 := Aside0.mk hb; clear hb HB5; have Kq2 := Aside0.mk hA; have yq2_0 : w6.cell? ⟨q2, 0, none⟩ = some (.slice none 0 0) := blk_cell hA 0; have yq2_1 : w6.cell? ⟨q2, 1, none⟩ = some (.slice none 0 0) := blk_cell hA 1; have yq2_2 : w6.cell? ⟨q2, 2, none⟩ = some (.slice none 0 0) := blk_cell hA 2; have yq2_3 : w6.cell? ⟨q2, 3, none⟩ = some (.slice none 0 0) := blk_cell hA 3; have yq2_4 : w6.cell? ⟨q2, 4, none⟩ = some (.slice none 0 0) := blk_cell hA 4; have yq2_5 : w6.cell? ⟨q2, 5, none⟩ = some (.slice none 0 0) := blk_cell hA 5; have yq2_6 : w6.cell? ⟨q2, 6, none⟩ = some (.slice none 0 0) := blk_cell hA 6; have yq2_7 : w6.cell? ⟨q2, 7, none⟩ = some (.int .i64 0) := blk_cell hA 7; have yq2_8 : w6.cell? ⟨q2, 8, none⟩ = some (.slice none 0 0) := blk_cell hA 8; have yq2_9 : w6.cell? ⟨q2, 9, none⟩ = some (.slice none 0 0) := blk_cell hA 9; have yq2_10 : w6.cell? ⟨q2, 10, none⟩ = some (.slice none 0 0) := blk_cell hA 10; clear hA ho hs Jq2 Mq2)
      | (go_at_call 14; (with_reducible refine (num_b _ HB6.out).mono ?_); rintro e w7 ⟨rfl, hb, hb0⟩; have Kq2b := Aside0.mk (blk_below' Kq2.out hb0); clear Kq2; have Kq2 := Kq2b; clear Kq2b yq2_0 yq2_1 yq2_2 yq2_3 yq2_4 yq2_5 yq2_6 yq2_7 yq2_8 yq2_9 yq2_10; have yq2_0 : w7.cell? ⟨q2, 0, none⟩ = some (.slice none 0 0) := blk_cell Kq2.out 0; have yq2_1 : w7.cell? ⟨q2, 1, none⟩ = some (.slice none 0 0) := blk_cell Kq2.out 1; have yq2_2 : w7.cell? ⟨q2, 2, none⟩ = some (.slice none 0 0) := blk_cell Kq2.out 2; have yq2_3 : w7.cell? ⟨q2, 3, none⟩ = some (.slice none 0 0) := blk_cell Kq2.out 3; have yq2_4 : w7.cell? ⟨q2, 4, none⟩ = some (.slice none 0 0) := blk_cell Kq2.out 4; have yq2_5 : w7.cell? ⟨q2, 5, none⟩ = some (.slice none 0 0) := blk_cell Kq2.out 5; have yq2_6 : w7.cell? ⟨q2, 6, none⟩ = some (.slice none 0 0) := blk_cell Kq2.out 6; have yq2_7 : w7.cell? ⟨q2, 7, none⟩ = some (.int .i64 0) := blk_cell Kq2.out 7; have yq2_8 : w7.cell? ⟨q2, 8, none⟩ = some (.slice none 0 0) := blk_cell Kq2.out 8; have yq2_9 : w7.cell? ⟨q2, 9, none⟩ = some (.slice none 0 0) := blk_cell Kq2.out 9; have yq2_10 : w7.cell? ⟨q2, 10, none⟩ = some (.slice none 0 0) := blk_cell Kq2.out 10; have HB7 := Aside0.mk hb; clear hb HB6; clear hb0)
      | (go_at_call 16; (with_reducible refine (samez_is HB7.out).mono ?_); rintro e w8 ⟨rfl, hb⟩; have HB8 := Aside0.mk hb; clear hb HB7))
    go_ret
    exact ⟨rfl, HB8.out⟩
theorem add0 (ad : Addr) : ad.add ((0 : Int).toNat * 2) = ad := by
  have e : ((0 : Int).toNat * 2) = 0 := rfl
  rw [e]; unfold Addr.add; split <;> simp_all
theorem mod_t1_c {s : ByteArray} {mT : Mod} {t : S51} (h : dMod s = .ok mT) (ht : mT.types = [t]) {w0 W : World} (hT : Tabs w0) (hb : Below w0.heap.size w0 W) : Calls Tryd.prog 13 #[.string s] W fun e w' => ∃ ad P0 d0 P1 d1 c0 A1 c1 A2 c2 A3 c3 A4 c4 A5 c5 A6 c6 A8 c8 A9 c9 A10 c10, e = .returned (.tuple #[.agg #[.slice (some ad) 1 c0, .slice A1 mT.imports.length c1, .slice A2 mT.funcs.length c2, .slice A3 mT.tables.length c3, .slice A4 mT.mems.length c4, .slice A5 mT.globals.length c5, .slice A6 mT.exports.length c6, .int .i64 mT.start, .slice A8 mT.elems.length c8, .slice A9 mT.codes.length c9, .slice A10 mT.datas.length c10], .int .i64 0]) ∧ w'.cell? ad = some (.slice P0 t.f0.length d0) ∧ w'.cell? ⟨ad.block, ad.off + 1, none⟩ = some (.slice P1 t.f1.length d1) ∧ t.f0.length ≤ d0 ∧ (Kd.int .i64).C w' P0 t.f0.length t.f0 ∧ t.f1.length ≤ d1 ∧ (Kd.int .i64).C w' P1 t.f1.length t.f1 ∧ Below w0.heap.size w0 w' := by
  refine (mod_ok_c h hT hb).mono ?_
  rintro e w' ⟨A0, c0, A1, c1, A2, c2, A3, c3, A4, c4, A5, c5, A6, c6, A8, c8, A9, c9, A10, c10, rfl, ⟨u0, u1, u2, u3, u4, u5, u6, u8, u9, u10, hu, g0, _⟩, hb⟩
  simp only [Value.agg.injEq, Array.mk.injEq, List.cons.injEq] at hu
  rw [← hu.1] at g0
  have e1 : mT.types.length = 1 := by rw [ht]; rfl
  obtain ⟨-, -, C0⟩ := Kd.R_reads' g0
  rw [ht] at C0
  obtain ⟨ad, P0, d0, P1, d1, rfl, z⟩ := at_T51 C0 0 (Int.le_refl _) (by simp)
  rw [add0] at z
  rw [e1]
  exact ⟨ad, P0, d0, P1, d1, c0, A1, c1, A2, c2, A3, c3, A4, c4, A5, c5, A6, c6, A8, c8, A9, c9, A10, c10, rfl, z.1, z.2.1, z.2.2.1, z.2.2.2.1, z.2.2.2.2.1, z.2.2.2.2.2, hb⟩
theorem one_C {W : World} {g : Nat} {x : Int} (h : W.heap[g]? = some (.cells #[.int .i64 x] 3 (0, 0))) : (Kd.int .i64).C W (some ⟨g, 0, none⟩) [x].length [x] :=
  Kd.C_of_reads (d := (0 : Int)) (h1 := fun _ => rfl) ⟨rfl, by simp, fun _ => ⟨_, rfl, fun j hj => by
    obtain rfl : j = 0 := by simpa using hj
    rw [add_plain]
    exact blk_cell h 0⟩⟩
theorem same_one {p q : Int} {wN W w0 : World} {P0 P1 : Option Addr} {d0 d1 g3 g4 : Nat} (D0 : (Kd.int .i64).C wN P0 [p].length [p]) (D1 : (Kd.int .i64).C wN P1 [q].length [q]) (l0 : [p].length ≤ d0) (l1 : [q].length ≤ d1) (hB : Below wN.heap.size wN W) (h3 : W.heap[g3]? = some (.cells #[.int .i64 p] 3 (0, 0))) (h4 : W.heap[g4]? = some (.cells #[.int .i64 q] 3 (0, 0))) (hb : Below w0.heap.size w0 W) :
    Calls Tryd.prog 21 #[.agg #[.slice P0 1 d0, .slice P1 1 d1], .agg #[.slice (some ⟨g3, 0, none⟩) 1 1, .slice (some ⟨g4, 0, none⟩) 1 1]] W fun e w' => e = .returned (.bool true) ∧ Below w0.heap.size w0 w' := by
  have hs : ∀ x : Int, peloruslaw0_SameInts.f 3 [x] [x] = some true := fun x => by
    have e : wrap64 1 = 1 := by kernel_rfl
    have e2 : wrap64 (1 + 1) = 2 := by kernel_rfl
    simp [peloruslaw0_SameInts.f, peloruslaw0_SameInts.l0, rd, e, e2]
  exact (peloruslaw0_SameType.calls 3 P0 d0 [p] P1 d1 [q] _ 1 [p] _ 1 [q] true W (Kd.C_below D0 hB) l0 (Kd.C_below D1 hB) l1 (one_C h3) (Nat.le_refl _) (one_C h4) (Nat.le_refl _) (by unfold peloruslaw0_SameType.f; rw [hs, hs]; rfl)).mono fun e w' h => ⟨h.1, hb.trans (h.2.mono hb.size)⟩
set_option maxHeartbeats 8000000 in
set_option maxRecDepth 100000 in
theorem types_ok0 (a0 a1 a2 : Int) (p q : Int) (hp : a0 % 256 = p) (hq : a1 % 256 = q) (e7 : (Go.bits .and .i64 a2 7 == 0) = false) (b1 : decide (124 ≤ p) = true) (b2 : decide (p ≤ 127) = true) (b3 : decide (124 ≤ q) = true) (b4 : decide (q ≤ 127) = true) (W : World) (hT : Tabs W) : Calls Tryd.prog 6 #[.int .i64 a0, .int .i64 a1, .int .i64 a2] W fun e w' => e = .returned (.bool true) ∧ Below W.heap.size W w' := by
  obtain ⟨mT, hmT⟩ : ∃ mT : Mod, mT = { m0 with types := [⟨[p], [q]⟩] } := ⟨_, rfl⟩
  have HM := Aside0.mk (types_ok (p := p) (q := q) ⟨by simpa using b1, by simpa using b2⟩ ⟨by simpa using b3, by simpa using b4⟩)
  rw [dT, ← hmT] at HM
  have HT1 := Aside0.mk (show mT.types = [⟨[p], [q]⟩] by rw [hmT])
  clear hmT
  have HT := Aside0.mk hT
  have HB0 := Aside0.mk (Below.refl W.heap.size W)
  have zt := tS_size 96 p q
  have SZ := Aside0.mk (show (tS 96 p q).size ≤ 140737488355328 by omega)
  have n1 := sum_ok (a := 8) (b := (secS 1 (tS 96 p q)).size) (by have := secS_size 1 (tS 96 p q); omega)
  clear hT zt
  go_enter Tryd.func6, Tryd.ntmps6
  go_wp2_with (first
    | (go_at_call 12; (with_reducible refine (awake_c HT.out HB0.out).mono ?_); rintro e w1 ⟨rfl, hb⟩; have HB1 := Aside0.mk hb; clear hb HB0)
    | ((with_reducible refine gate_dst (N := 29) rfl ?_); refine lit_event ?hg (N := 29) ?hd (cs := #[.int .u8 1, .int .u8 96, .int .u8 1, .int .u8 p, .int .u8 1, .int .u8 q]) (t := 5) (n := 6) ?hr ?_; (case hd => rfl); (case hg => rfl); (case hr => first | (go_simp; done) | (go_simp; rfl)); intro q1 hgq1 w2 hA hb; have cq1 : (convert 48 9 (.slice (some ⟨q1, 0, none⟩) 6 6)).run Tryd.prog w2 = .ok (.string (tS 96 p q)) w2 := conv_lit (zs := [1, 96, 1, p, 1, q]) hA rfl; have HB2 := Aside0.mk (below_step HB1.out hb); clear hb HB1; clear hA hgq1)
    | (go_at_call 20; (with_reducible refine (section_is 1 (tS 96 p q) SZ.out HB2.out).mono ?_); rintro e w3 ⟨rfl, hb⟩; have HB3 := Aside0.mk hb; clear hb HB2)
    | (go_at_call 13; (with_reducible refine (mod_t1_c HM.out HT1.out HT.out HB3.out).mono ?_); rintro e w4 ⟨ad, P0, d0, P1, d1, c0, A1, c1, A2, c2, A3, c3, A4, c4, A5, c5, A6, c6, A8, c8, A9, c9, A10, c10, rfl, z0, z1, lp0, D0, lp1, D1, hb⟩; have HB4 := Aside0.mk hb; clear hb HB3; have Z0 := Aside0.mk z0; have Z1 := Aside0.mk z1; have LP0 := Aside0.mk lp0; have LP1 := Aside0.mk lp1; have D0 := Aside0.mk D0; have D1 := Aside0.mk D1; clear z0 z1 lp0 lp1)
    | ((with_reducible refine gate_dst (N := 10) rfl ?_); refine box_event ?hg (N := 10) ?hd (cs := #[.slice none 0 0, .slice none 0 0, .slice none 0 0, .slice none 0 0, .slice none 0 0, .slice none 0 0, .slice none 0 0, .int .i64 0, .slice none 0 0, .slice none 0 0, .slice none 0 0]) (t := 33) ?hr ?_; (case hd => rfl); (case hg => rfl); (case hr => first | (go_simp; done) | (go_simp; rfl)); intro q2 hgq2 w5 hA hb; have BT := Aside0.mk hb; have BG := Aside0.mk (show w4.heap.size ≤ q2 by rw [hgq2]; exact Nat.le_refl _); have Jq2 := Aside0.mk hA; have Mq2 := Aside0.mk (show W.heap.size ≤ q2 by have := HB4.out.size; omega); have hb := HB4.out.trans (hb.mono HB4.out.size); have HB5 := Aside0.mk hb; clear hb HB4; clear hA hgq2)
    | ((with_reducible refine gate_store (p := 10) rfl ?_); refine storeRow_event (g := q2) rfl rfl rfl (cs := #[.slice (some ad) 1 c0, .slice A1 mT.imports.length c1, .slice A2 mT.funcs.length c2, .slice A3 mT.tables.length c3, .slice A4 mT.mems.length c4, .slice A5 mT.globals.length c5, .slice A6 mT.exports.length c6, .int .i64 mT.start, .slice A8 mT.elems.length c8, .slice A9 mT.codes.length c9, .slice A10 mT.datas.length c10]) rfl rfl Jq2.out (by kernel_rfl) rfl (by simp [Value.oneCell']) ?_; intro w6 hA hb ho hs; have BTb := Aside0.mk (hb _ _ BG.out BT.out); clear BT BG; have BT := BTb; clear BTb; have hb := hb W.heap.size W Mq2.out HB5.out; have HB6 := Aside0.mk hb; clear hb HB5; have Kq2 := Aside0.mk hA; have yq2_0 : w6.cell? ⟨q2, 0, none⟩ = some (.slice (some ad) 1 c0) := blk_cell hA 0; clear hA ho hs Jq2 Mq2)
    | (go_at_call 14; (with_reducible refine (num_b _ HB6.out).mono ?_); rintro e w7 ⟨rfl, hb, hb0⟩; have BTb := Aside0.mk (BT.out.trans (hb0.mono BT.out.size)); clear BT; have BT := BTb; clear BTb; have y0 := pw_cell_below BT.out Z0.out; have y1 := pw_cell_below BT.out Z1.out; have Kq2b := Aside0.mk (blk_below' Kq2.out hb0); clear Kq2; have Kq2 := Kq2b; clear Kq2b yq2_0; have yq2_0 : w7.cell? ⟨q2, 0, none⟩ = some (.slice (some ad) 1 c0) := blk_cell Kq2.out 0; have HB7 := Aside0.mk hb; clear hb HB6; clear hb0)
    | ((with_reducible refine gate_dst (N := 80) rfl ?_); (try (refine gate_guard (by rfl) ?_; dsimp only)); refine lit_event ?hg (N := 80) ?hd (cs := #[.int .i64 p]) (t := 3) (n := 1) ?hr ?_; (case hd => rfl); (case hg => rfl); (case hr => first | (go_simp; done) | (go_simp; rfl)); intro q3 hgq3 w8 hA hb; have A3 := Aside0.mk hA; have BTb := Aside0.mk (BT.out.trans (hb.mono BT.out.size)); clear BT; have BT := BTb; clear BTb; have HB8 := Aside0.mk (below_step HB7.out hb); clear hb HB7; clear hA hgq3)
    | ((with_reducible refine gate_dst (N := 83) rfl ?_); (try (refine gate_guard (by rfl) ?_; dsimp only)); refine lit_event ?hg (N := 83) ?hd (cs := #[.int .i64 q]) (t := 3) (n := 1) ?hr ?_; (case hd => rfl); (case hg => rfl); (case hr => first | (go_simp; done) | (go_simp; rfl)); intro q4 hgq4 w9 hA hb; have A4 := Aside0.mk hA; have A3b := Aside0.mk (blk_below A3.out hb); clear A3; have A3 := A3b; clear A3b; have BTb := Aside0.mk (BT.out.trans (hb.mono BT.out.size)); clear BT; have BT := BTb; clear BTb; have HB9 := Aside0.mk (below_step HB8.out hb); clear hb HB8; clear hA hgq4)
    | (go_at_call 21; (with_reducible refine (same_one D0.out D1.out LP0.out LP1.out BT.out A3.out A4.out HB9.out).mono ?_); rintro e w10 ⟨rfl, hb⟩; have HB10 := Aside0.mk hb; clear hb HB9))
  go_ret
  exact ⟨rfl, HB10.out⟩
set_option maxHeartbeats 8000000 in
set_option maxRecDepth 100000 in
theorem types_ok1 (a0 a1 a2 : Int) (p q : Int) (hp : a0 % 256 = p) (hq : a1 % 256 = q) (e7 : (Go.bits .and .i64 a2 7 == 0) = true) (hf : (a2 / 8) % 256 = 96) (b1 : decide (124 ≤ p) = true) (b2 : decide (p ≤ 127) = true) (b3 : decide (124 ≤ q) = true) (b4 : decide (q ≤ 127) = true) (W : World) (hT : Tabs W) : Calls Tryd.prog 6 #[.int .i64 a0, .int .i64 a1, .int .i64 a2] W fun e w' => e = .returned (.bool true) ∧ Below W.heap.size W w' := by
  obtain ⟨mT, hmT⟩ : ∃ mT : Mod, mT = { m0 with types := [⟨[p], [q]⟩] } := ⟨_, rfl⟩
  have HM := Aside0.mk (types_ok (p := p) (q := q) ⟨by simpa using b1, by simpa using b2⟩ ⟨by simpa using b3, by simpa using b4⟩)
  rw [dT, ← hmT] at HM
  have HT1 := Aside0.mk (show mT.types = [⟨[p], [q]⟩] by rw [hmT])
  clear hmT
  have HT := Aside0.mk hT
  have HB0 := Aside0.mk (Below.refl W.heap.size W)
  have zt := tS_size 96 p q
  have SZ := Aside0.mk (show (tS 96 p q).size ≤ 140737488355328 by omega)
  have n1 := sum_ok (a := 8) (b := (secS 1 (tS 96 p q)).size) (by have := secS_size 1 (tS 96 p q); omega)
  clear hT zt
  go_enter Tryd.func6, Tryd.ntmps6
  go_wp2_with (first
    | (go_at_call 12; (with_reducible refine (awake_c HT.out HB0.out).mono ?_); rintro e w1 ⟨rfl, hb⟩; have HB1 := Aside0.mk hb; clear hb HB0)
    | ((with_reducible refine gate_dst (N := 29) rfl ?_); refine lit_event ?hg (N := 29) ?hd (cs := #[.int .u8 1, .int .u8 96, .int .u8 1, .int .u8 p, .int .u8 1, .int .u8 q]) (t := 5) (n := 6) ?hr ?_; (case hd => rfl); (case hg => rfl); (case hr => first | (go_simp; done) | (go_simp; rfl)); intro q1 hgq1 w2 hA hb; have cq1 : (convert 48 9 (.slice (some ⟨q1, 0, none⟩) 6 6)).run Tryd.prog w2 = .ok (.string (tS 96 p q)) w2 := conv_lit (zs := [1, 96, 1, p, 1, q]) hA rfl; have HB2 := Aside0.mk (below_step HB1.out hb); clear hb HB1; clear hA hgq1)
    | (go_at_call 20; (with_reducible refine (section_is 1 (tS 96 p q) SZ.out HB2.out).mono ?_); rintro e w3 ⟨rfl, hb⟩; have HB3 := Aside0.mk hb; clear hb HB2)
    | (go_at_call 13; (with_reducible refine (mod_t1_c HM.out HT1.out HT.out HB3.out).mono ?_); rintro e w4 ⟨ad, P0, d0, P1, d1, c0, A1, c1, A2, c2, A3, c3, A4, c4, A5, c5, A6, c6, A8, c8, A9, c9, A10, c10, rfl, z0, z1, lp0, D0, lp1, D1, hb⟩; have HB4 := Aside0.mk hb; clear hb HB3; have Z0 := Aside0.mk z0; have Z1 := Aside0.mk z1; have LP0 := Aside0.mk lp0; have LP1 := Aside0.mk lp1; have D0 := Aside0.mk D0; have D1 := Aside0.mk D1; clear z0 z1 lp0 lp1)
    | ((with_reducible refine gate_dst (N := 10) rfl ?_); refine box_event ?hg (N := 10) ?hd (cs := #[.slice none 0 0, .slice none 0 0, .slice none 0 0, .slice none 0 0, .slice none 0 0, .slice none 0 0, .slice none 0 0, .int .i64 0, .slice none 0 0, .slice none 0 0, .slice none 0 0]) (t := 33) ?hr ?_; (case hd => rfl); (case hg => rfl); (case hr => first | (go_simp; done) | (go_simp; rfl)); intro q2 hgq2 w5 hA hb; have BT := Aside0.mk hb; have BG := Aside0.mk (show w4.heap.size ≤ q2 by rw [hgq2]; exact Nat.le_refl _); have Jq2 := Aside0.mk hA; have Mq2 := Aside0.mk (show W.heap.size ≤ q2 by have := HB4.out.size; omega); have hb := HB4.out.trans (hb.mono HB4.out.size); have HB5 := Aside0.mk hb; clear hb HB4; clear hA hgq2)
    | ((with_reducible refine gate_store (p := 10) rfl ?_); refine storeRow_event (g := q2) rfl rfl rfl (cs := #[.slice (some ad) 1 c0, .slice A1 mT.imports.length c1, .slice A2 mT.funcs.length c2, .slice A3 mT.tables.length c3, .slice A4 mT.mems.length c4, .slice A5 mT.globals.length c5, .slice A6 mT.exports.length c6, .int .i64 mT.start, .slice A8 mT.elems.length c8, .slice A9 mT.codes.length c9, .slice A10 mT.datas.length c10]) rfl rfl Jq2.out (by kernel_rfl) rfl (by simp [Value.oneCell']) ?_; intro w6 hA hb ho hs; have BTb := Aside0.mk (hb _ _ BG.out BT.out); clear BT BG; have BT := BTb; clear BTb; have hb := hb W.heap.size W Mq2.out HB5.out; have HB6 := Aside0.mk hb; clear hb HB5; have Kq2 := Aside0.mk hA; have yq2_0 : w6.cell? ⟨q2, 0, none⟩ = some (.slice (some ad) 1 c0) := blk_cell hA 0; clear hA ho hs Jq2 Mq2)
    | (go_at_call 14; (with_reducible refine (num_b _ HB6.out).mono ?_); rintro e w7 ⟨rfl, hb, hb0⟩; have BTb := Aside0.mk (BT.out.trans (hb0.mono BT.out.size)); clear BT; have BT := BTb; clear BTb; have y0 := pw_cell_below BT.out Z0.out; have y1 := pw_cell_below BT.out Z1.out; have Kq2b := Aside0.mk (blk_below' Kq2.out hb0); clear Kq2; have Kq2 := Kq2b; clear Kq2b yq2_0; have yq2_0 : w7.cell? ⟨q2, 0, none⟩ = some (.slice (some ad) 1 c0) := blk_cell Kq2.out 0; have HB7 := Aside0.mk hb; clear hb HB6; clear hb0)
    | ((with_reducible refine gate_dst (N := 80) rfl ?_); (try (refine gate_guard (by rfl) ?_; dsimp only)); refine lit_event ?hg (N := 80) ?hd (cs := #[.int .i64 p]) (t := 3) (n := 1) ?hr ?_; (case hd => rfl); (case hg => rfl); (case hr => first | (go_simp; done) | (go_simp; rfl)); intro q3 hgq3 w8 hA hb; have A3 := Aside0.mk hA; have BTb := Aside0.mk (BT.out.trans (hb.mono BT.out.size)); clear BT; have BT := BTb; clear BTb; have HB8 := Aside0.mk (below_step HB7.out hb); clear hb HB7; clear hA hgq3)
    | ((with_reducible refine gate_dst (N := 83) rfl ?_); (try (refine gate_guard (by rfl) ?_; dsimp only)); refine lit_event ?hg (N := 83) ?hd (cs := #[.int .i64 q]) (t := 3) (n := 1) ?hr ?_; (case hd => rfl); (case hg => rfl); (case hr => first | (go_simp; done) | (go_simp; rfl)); intro q4 hgq4 w9 hA hb; have A4 := Aside0.mk hA; have A3b := Aside0.mk (blk_below A3.out hb); clear A3; have A3 := A3b; clear A3b; have BTb := Aside0.mk (BT.out.trans (hb.mono BT.out.size)); clear BT; have BT := BTb; clear BTb; have HB9 := Aside0.mk (below_step HB8.out hb); clear hb HB8; clear hA hgq4)
    | (go_at_call 21; (with_reducible refine (same_one D0.out D1.out LP0.out LP1.out BT.out A3.out A4.out HB9.out).mono ?_); rintro e w10 ⟨rfl, hb⟩; have HB10 := Aside0.mk hb; clear hb HB9))
  go_ret
  exact ⟨rfl, HB10.out⟩
theorem types_calls (a0 a1 a2 : Int) (W : World) (hT : Tabs W) : Calls Tryd.prog 6 #[.int .i64 a0, .int .i64 a1, .int .i64 a2] W fun e w' => e = .returned (.bool true) ∧ Below W.heap.size W w' := by
  obtain ⟨p, hp⟩ : ∃ p, a0 % 256 = p := ⟨_, rfl⟩
  obtain ⟨q, hq⟩ : ∃ q, a1 % 256 = q := ⟨_, rfl⟩
  obtain ⟨f, hf⟩ : ∃ f, (a2 / 8) % 256 = f := ⟨_, rfl⟩
  have rp : 0 ≤ p ∧ p < 256 := by omega
  have rq : 0 ≤ q ∧ q < 256 := by omega
  have rf : 0 ≤ f ∧ f < 256 := by omega
  by_cases hfine : 124 ≤ p ∧ p ≤ 127 ∧ 124 ≤ q ∧ q ≤ 127
  · have b1 : decide (124 ≤ p) = true := decide_eq_true hfine.1
    have b2 : decide (p ≤ 127) = true := decide_eq_true hfine.2.1
    have b3 : decide (124 ≤ q) = true := decide_eq_true hfine.2.2.1
    have b4 : decide (q ≤ 127) = true := decide_eq_true hfine.2.2.2
    cases e7 : (Go.bits .and .i64 a2 7 == 0) with
    | false => exact types_ok0 a0 a1 a2 p q hp hq e7 b1 b2 b3 b4 W hT
    | true =>
      by_cases h96 : f = 96
      · exact types_ok1 a0 a1 a2 p q hp hq e7 (hf.trans h96) b1 b2 b3 b4 W hT
      · exact types_er1 a0 a1 a2 f p q hp hq e7 hf (.inl (beq_eq_false_iff_ne.2 h96)) (types_er rf rp rq (fun h => h96 h.1)) W hT
  · have hc : (decide (124 ≤ p) = false) ∨ (decide (124 ≤ p) = true ∧ decide (p ≤ 127) = false) ∨ (decide (124 ≤ p) = true ∧ decide (p ≤ 127) = true ∧ decide (124 ≤ q) = false) ∨ (decide (124 ≤ p) = true ∧ decide (p ≤ 127) = true ∧ decide (124 ≤ q) = true ∧ decide (q ≤ 127) = false) := by
      simp only [decide_eq_true_eq, decide_eq_false_iff_not]; omega
    cases e7 : (Go.bits .and .i64 a2 7 == 0) with
    | false => exact types_er0 a0 a1 a2 f p q hp hq e7 hc (types_er (by omega) rp rq (fun h => hfine h.2)) W hT
    | true =>
      refine types_er1 a0 a1 a2 f p q hp hq e7 hf ?_ (types_er rf rp rq (fun h => hfine h.2)) W hT
      by_cases h96 : f = 96
      · have k : (f == 96) = true := beq_iff_eq.2 h96
        rcases hc with h | h | h | h
        · exact .inr (.inl ⟨k, h⟩)
        · exact .inr (.inr (.inl ⟨k, h⟩))
        · exact .inr (.inr (.inr (.inl ⟨k, h⟩)))
        · exact .inr (.inr (.inr (.inr ⟨k, h⟩)))
      · exact .inl (beq_eq_false_iff_ne.2 h96)
end Go.Proofs.YtkdoijfjceeblaaDoor.EDec
