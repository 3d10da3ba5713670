/-
  What the claim leans on, in the order of its making: words about values and worlds, the printed functions, the decoder in plain words and its walk. Cut to what is used by wip/tools/prune15.py. (EDecSizes)
-/
import Derived.Test.YtkdoijfjceeblaaDoorQEDecS
namespace Go.Proofs.YtkdoijfjceeblaaDoor.EDec
open Go Go.RowKit Go.Proofs.YtkdoijfjceeblaaDoor.F Go.Proofs.YtkdoijfjceeblaaDoorW.Hand Go.Proofs.YtkdoijfjceeblaaDoorW.PrintWords Go.Proofs.YtkdoijfjceeblaaDoorW.PrintLast Go.Proofs.YtkdoijfjceeblaaDoorW.PrintMore
open Go.Proofs.YtkdoijfjceeblaaDoor.LebGets (G)
open Go.Proofs.YtkdoijfjceeblaaDoor.ENames (Tabs tabs_below nget nmay)
open Go.Proofs.YtkdoijfjceeblaaDoor.EInstr (GRes pGet get_b ret_int wrap_bt)
set_option linter.unusedVariables false
set_option linter.unusedSimpArgs false
def chkSizes (x : Int) (d : Nat) : Bool := x == 8 || (isOk (({ data := #[0, 97, 115, 109, 1, 0, 0, 0] } : ByteArray) ++ secS x (⟨#[0]⟩ : ByteArray)) && isEr (({ data := #[0, 97, 115, 109, 1, 0, 0, 0] } : ByteArray) ++ secS x ((⟨#[0]⟩ : ByteArray) ++ strOfNums (List.replicate d 0))) 1504 && isEr (({ data := #[0, 97, 115, 109, 1, 0, 0, 0] } : ByteArray) ++ secS x (⟨#[]⟩ : ByteArray)) 1506 && isEr (({ data := #[0, 97, 115, 109, 1, 0, 0, 0] } : ByteArray) ++ strOfNums [x, 1 + (d : Int), 0]) 1501)
theorem chk_sizes : ((List.range 11).all fun i => (List.range 8).all fun j => chkSizes ((i : Int) + 1) (j + 1)) = true := by kernel_rfl
theorem sizes_all {x : Int} {d : Nat} (hx : 1 ≤ x ∧ x ≤ 11) (h8 : x ≠ 8) (h1 : 1 ≤ d) (h2 : d ≤ 8) : (∃ m, dMod (({ data := #[0, 97, 115, 109, 1, 0, 0, 0] } : ByteArray) ++ secS x (⟨#[0]⟩ : ByteArray)) = .ok m) ∧ dMod (({ data := #[0, 97, 115, 109, 1, 0, 0, 0] } : ByteArray) ++ secS x ((⟨#[0]⟩ : ByteArray) ++ strOfNums (List.replicate d 0))) = .error 1504 ∧ dMod (({ data := #[0, 97, 115, 109, 1, 0, 0, 0] } : ByteArray) ++ secS x (⟨#[]⟩ : ByteArray)) = .error 1506 ∧ dMod (({ data := #[0, 97, 115, 109, 1, 0, 0, 0] } : ByteArray) ++ strOfNums [x, 1 + (d : Int), 0]) = .error 1501 := by
  have h := List.all_eq_true.1 (List.all_eq_true.1 chk_sizes (x - 1).toNat (List.mem_range.2 (by omega))) (d - 1) (List.mem_range.2 (by omega))
  rw [show (((x - 1).toNat : Nat) : Int) + 1 = x by omega, show d - 1 + 1 = d by omega] at h
  unfold chkSizes at h
  rw [beq_eq_false_iff_ne.2 h8, Bool.false_or] at h
  simp only [Bool.and_eq_true] at h
  exact ⟨ok_of h.1.1.1, er_of h.1.1.2, er_of h.1.2, er_of h.2⟩
set_option maxHeartbeats 4000000 in
set_option maxRecDepth 100000 in
theorem sizes_at (a0 a1 : Int) (x z : Int) (d : Nat) (W : World) (hz : wrap64 (1 + wrap64 ((IntKind.u64.wrap a0).tmod 11)) = z) (hx : z = 8 ∧ x = 9 ∨ z ≠ 8 ∧ x = z) (rx : 1 ≤ x ∧ x ≤ 11) (h8 : x ≠ 8) (e1 : 1 + Go.bits .and .i64 a1 7 = (d : Int)) (h1 : 1 ≤ d) (h2 : d ≤ 8) (hT : Tabs W) : Calls Tryd.prog 8 #[.int .i64 a0, .int .i64 a1] W fun e w' => e = .returned (.bool true) ∧ Below W.heap.size W w' := by
  have HT := Aside0.mk hT
  have HB0 := Aside0.mk (Below.refl W.heap.size W)
  obtain ⟨⟨m, hm⟩, hb, hc, hd⟩ := sizes_all rx h8 h1 h2
  have EA := Aside0.mk hm
  have EB := Aside0.mk hb
  have EC := Aside0.mk hc
  have ED := Aside0.mk hd
  have z1 := str_size (List.replicate d 0)
  rw [List.length_replicate] at z1
  have SZ := Aside0.mk (show ((⟨#[0]⟩ : ByteArray) ++ strOfNums (List.replicate d 0)).size ≤ 140737488355328 by rw [ByteArray.size_append, z1]; have : (⟨#[0]⟩ : ByteArray).size = 1 := rfl; omega)
  have hmk := fun W => make8 d (by omega) W
  have b3 : 1 ≤ x := rx.1
  have b4 : x ≤ 11 := rx.2
  have b1 : (1 : Int) ≤ (d : Int) := by omega
  have b2 : (d : Int) ≤ 8 := by omega
  have n1 := sum_ok (a := 8) (b := (secS x ⟨#[0]⟩).size) (by have := secS_size x ⟨#[0]⟩; have : (⟨#[0]⟩ : ByteArray).size = 1 := rfl; omega)
  have n2 := sum_ok (a := 1) (b := (strOfNums (List.replicate d 0)).size) (by omega)
  have n3 := sum_ok (a := 8) (b := (secS x ((⟨#[0]⟩ : ByteArray) ++ strOfNums (List.replicate d 0))).size) (by have := secS_size x ((⟨#[0]⟩ : ByteArray) ++ strOfNums (List.replicate d 0)); rw [ByteArray.size_append] at this; have : (⟨#[0]⟩ : ByteArray).size = 1 := rfl; omega)
  have n4 := sum_ok (a := 8) (b := (secS x ⟨#[]⟩).size) (by have := secS_size x ⟨#[]⟩; have : (⟨#[]⟩ : ByteArray).size = 0 := rfl; omega)
  have z5 := str_size [x, 1 + (d : Int), 0]
  simp only [List.length_cons, List.length_nil] at z5
  clear hm hb hc hd hT rx h1 h2 z1
  rcases hx with ⟨h, rfl⟩ | ⟨h, rfl⟩
  · have e8 : (z == 8) = true := beq_iff_eq.2 h
    clear h h8
    go_enter Tryd.func8, Tryd.ntmps8
    go_wp2_with (first
      | (go_at_call 12; (with_reducible refine (awake_c HT.out HB0.out).mono ?_); rintro e w1 ⟨rfl, hb⟩; have HB1 := Aside0.mk hb; clear hb HB0)
      | (go_at_call 20; (with_reducible refine (section_is 9 ⟨#[0]⟩ (by decide) HB1.out).mono ?_); rintro e w2 ⟨rfl, hb⟩; have HB2 := Aside0.mk hb; clear hb HB1)
      | (go_at_call 13; (with_reducible refine (mod_ok_c EA.out HT.out HB2.out).mono ?_); rintro e w3 ⟨A0, c0, A1, c1, A2, c2, A3, c3, A4, c4, A5, c5, A6, c6, A8, c8, A9, c9, A10, c10, rfl, hV, hb⟩; have HB3 := Aside0.mk hb; clear hb HB2; clear hV)
      | ((with_reducible refine gate_dst (N := 7) rfl ?_); refine box_event ?hg (N := 7) ?hd (cs := #[.slice none 0 0, .slice none 0 0, .slice none 0 0, .slice none 0 0, .slice none 0 0, .slice none 0 0, .slice none 0 0, .int .i64 0, .slice none 0 0, .slice none 0 0, .slice none 0 0]) (t := 33) ?hr ?_; (case hd => rfl); (case hg => rfl); (case hr => first | (go_simp; done) | (go_simp; rfl)); intro q1 hgq1 w4 hA hb; have Jq1 := Aside0.mk hA; have Mq1 := Aside0.mk (show W.heap.size ≤ q1 by have := HB3.out.size; omega); have hb := HB3.out.trans (hb.mono HB3.out.size); have HB4 := Aside0.mk hb; clear hb HB3; clear hA hgq1)
      | ((with_reducible refine gate_store (p := 7) rfl ?_); refine storeRow_event (g := q1) rfl rfl rfl (cs := #[.slice A0 m.types.length c0, .slice A1 m.imports.length c1, .slice A2 m.funcs.length c2, .slice A3 m.tables.length c3, .slice A4 m.mems.length c4, .slice A5 m.globals.length c5, .slice A6 m.exports.length c6, .int .i64 m.start, .slice A8 m.elems.length c8, .slice A9 m.codes.length c9, .slice A10 m.datas.length c10]) rfl rfl Jq1.out (by kernel_rfl) rfl (by simp [Value.oneCell']) ?_; intro w5 hA hb ho hs; have hb := hb W.heap.size W Mq1.out HB4.out; have HB5 := Aside0.mk hb; clear hb HB4; clear hA ho hs Jq1 Mq1)
      | ((with_reducible refine gate_dst (N := 37) rfl ?_); refine lit_event ?hg (N := 37) ?hd (cs := ((List.replicate d (0 : Int)).map (Value.int .u8)).toArray) (t := 5) (n := d) ?hr ?_; (case hd => rfl); (case hg => rfl); (case hr => first | (go_simp; done) | (go_simp; rfl)); intro q2 hgq2 w6 hA hb; have cq2 : (convert 48 9 (.slice (some ⟨q2, 0, none⟩) d d)).run Tryd.prog w6 = .ok (.string (strOfNums (List.replicate d 0))) _ := conv_rep hA; have HB6 := Aside0.mk (below_step HB5.out hb); clear hb HB5; clear hA hgq2)
      | (go_at_call 20; (with_reducible refine (section_is 9 _ SZ.out HB6.out).mono ?_); rintro e w7 ⟨rfl, hb⟩; have HB7 := Aside0.mk hb; clear hb HB6)
      | (go_at_call 13; (with_reducible refine (mod_er_c EB.out HT.out HB7.out).mono ?_); rintro e w8 ⟨rfl, hb⟩; have HB8 := Aside0.mk hb; clear hb HB7)
      | ((with_reducible refine gate_dst (N := 9) rfl ?_); refine box_event ?hg (N := 9) ?hd (cs := #[.slice none 0 0, .slice none 0 0, .slice none 0 0, .slice none 0 0, .slice none 0 0, .slice none 0 0, .slice none 0 0, .int .i64 0, .slice none 0 0, .slice none 0 0, .slice none 0 0]) (t := 33) ?hr ?_; (case hd => rfl); (case hg => rfl); (case hr => first | (go_simp; done) | (go_simp; rfl)); intro q3 hgq3 w9 hA hb; have Jq3 := Aside0.mk hA; have Mq3 := Aside0.mk (show W.heap.size ≤ q3 by have := HB8.out.size; omega); have hb := HB8.out.trans (hb.mono HB8.out.size); have HB9 := Aside0.mk hb; clear hb HB8; clear hA hgq3)
      | ((with_reducible refine gate_store (p := 9) rfl ?_); refine storeRow_event (g := q3) rfl rfl rfl (cs := #[.slice none 0 0, .slice none 0 0, .slice none 0 0, .slice none 0 0, .slice none 0 0, .slice none 0 0, .slice none 0 0, .int .i64 0, .slice none 0 0, .slice none 0 0, .slice none 0 0]) rfl rfl Jq3.out (by kernel_rfl) rfl (by simp [Value.oneCell']) ?_; intro w10 hA hb ho hs; have hb := hb W.heap.size W Mq3.out HB9.out; have HB10 := Aside0.mk hb; clear hb HB9; clear hA ho hs Jq3 Mq3)
      | (go_at_call 20; (with_reducible refine (section_is 9 ⟨#[]⟩ (by decide) HB10.out).mono ?_); rintro e w11 ⟨rfl, hb⟩; have HB11 := Aside0.mk hb; clear hb HB10)
      | (go_at_call 13; (with_reducible refine (mod_er_c EC.out HT.out HB11.out).mono ?_); rintro e w12 ⟨rfl, hb⟩; have HB12 := Aside0.mk hb; clear hb HB11)
      | ((with_reducible refine gate_dst (N := 11) rfl ?_); refine box_event ?hg (N := 11) ?hd (cs := #[.slice none 0 0, .slice none 0 0, .slice none 0 0, .slice none 0 0, .slice none 0 0, .slice none 0 0, .slice none 0 0, .int .i64 0, .slice none 0 0, .slice none 0 0, .slice none 0 0]) (t := 33) ?hr ?_; (case hd => rfl); (case hg => rfl); (case hr => first | (go_simp; done) | (go_simp; rfl)); intro q4 hgq4 w13 hA hb; have Jq4 := Aside0.mk hA; have Mq4 := Aside0.mk (show W.heap.size ≤ q4 by have := HB12.out.size; omega); have hb := HB12.out.trans (hb.mono HB12.out.size); have HB13 := Aside0.mk hb; clear hb HB12; clear hA hgq4)
      | ((with_reducible refine gate_store (p := 11) rfl ?_); refine storeRow_event (g := q4) rfl rfl rfl (cs := #[.slice none 0 0, .slice none 0 0, .slice none 0 0, .slice none 0 0, .slice none 0 0, .slice none 0 0, .slice none 0 0, .int .i64 0, .slice none 0 0, .slice none 0 0, .slice none 0 0]) rfl rfl Jq4.out (by kernel_rfl) rfl (by simp [Value.oneCell']) ?_; intro w14 hA hb ho hs; have hb := hb W.heap.size W Mq4.out HB13.out; have HB14 := Aside0.mk hb; clear hb HB13; clear hA ho hs Jq4 Mq4)
      | ((with_reducible refine gate_dst (N := 58) rfl ?_); refine lit_event ?hg (N := 58) ?hd (cs := #[.int .u8 9, .int .u8 (1 + (d : Int)), .int .u8 0]) (t := 5) (n := 3) ?hr ?_; (case hd => rfl); (case hg => rfl); (case hr => first | (go_simp; done) | (go_simp; rfl)); intro q5 hgq5 w15 hA hb; have cq5 : (convert 48 9 (.slice (some ⟨q5, 0, none⟩) 3 3)).run Tryd.prog w15 = .ok (.string (strOfNums [9, 1 + (d : Int), 0])) _ := conv_lit (zs := [9, 1 + (d : Int), 0]) hA rfl; have HB15 := Aside0.mk (below_step HB14.out hb); clear hb HB14; clear hA hgq5)
      | (go_at_call 13; (with_reducible refine (mod_er_c ED.out HT.out HB15.out).mono ?_); rintro e w16 ⟨rfl, hb⟩; have HB16 := Aside0.mk hb; clear hb HB15)
      | ((with_reducible refine gate_dst (N := 13) rfl ?_); refine box_event ?hg (N := 13) ?hd (cs := #[.slice none 0 0, .slice none 0 0, .slice none 0 0, .slice none 0 0, .slice none 0 0, .slice none 0 0, .slice none 0 0, .int .i64 0, .slice none 0 0, .slice none 0 0, .slice none 0 0]) (t := 33) ?hr ?_; (case hd => rfl); (case hg => rfl); (case hr => first | (go_simp; done) | (go_simp; rfl)); intro q6 hgq6 w17 hA hb; have Jq6 := Aside0.mk hA; have Mq6 := Aside0.mk (show W.heap.size ≤ q6 by have := HB16.out.size; omega); have hb := HB16.out.trans (hb.mono HB16.out.size); have HB17 := Aside0.mk hb; clear hb HB16; clear hA hgq6)
      | ((with_reducible refine gate_store (p := 13) rfl ?_); refine storeRow_event (g := q6) rfl rfl rfl (cs := #[.slice none 0 0, .slice none 0 0, .slice none 0 0, .slice none 0 0, .slice none 0 0, .slice none 0 0, .slice none 0 0, .int .i64 0, .slice none 0 0, .slice none 0 0, .slice none 0 0]) rfl rfl Jq6.out (by kernel_rfl) rfl (by simp [Value.oneCell']) ?_; intro w18 hA hb ho hs; have hb := hb W.heap.size W Mq6.out HB17.out; have HB18 := Aside0.mk hb; clear hb HB17; clear hA ho hs Jq6 Mq6)
      | (go_at_call 14; (with_reducible refine (num_is _ HB18.out).mono ?_); rintro e w19 ⟨rfl, hb⟩; have HB19 := Aside0.mk hb; clear hb HB18)
      | (go_at_call 14; (with_reducible refine (num_is _ HB19.out).mono ?_); rintro e w20 ⟨rfl, hb⟩; have HB20 := Aside0.mk hb; clear hb HB19)
      | (go_at_call 14; (with_reducible refine (num_is _ HB20.out).mono ?_); rintro e w21 ⟨rfl, hb⟩; have HB21 := Aside0.mk hb; clear hb HB20)
      | (go_at_call 14; (with_reducible refine (num_is _ HB21.out).mono ?_); rintro e w22 ⟨rfl, hb⟩; have HB22 := Aside0.mk hb; clear hb HB21))
    go_ret
    exact ⟨rfl, HB22.out⟩
  · have e8 : (x == 8) = false := beq_eq_false_iff_ne.2 h
    clear h h8
    go_enter Tryd.func8, Tryd.ntmps8
    go_wp2_with (first
      | (go_at_call 12; (with_reducible refine (awake_c HT.out HB0.out).mono ?_); rintro e w1 ⟨rfl, hb⟩; have HB1 := Aside0.mk hb; clear hb HB0)
      | (go_at_call 20; (with_reducible refine (section_is x ⟨#[0]⟩ (by decide) HB1.out).mono ?_); rintro e w2 ⟨rfl, hb⟩; have HB2 := Aside0.mk hb; clear hb HB1)
      | (go_at_call 13; (with_reducible refine (mod_ok_c EA.out HT.out HB2.out).mono ?_); rintro e w3 ⟨A0, c0, A1, c1, A2, c2, A3, c3, A4, c4, A5, c5, A6, c6, A8, c8, A9, c9, A10, c10, rfl, hV, hb⟩; have HB3 := Aside0.mk hb; clear hb HB2; clear hV)
      | ((with_reducible refine gate_dst (N := 7) rfl ?_); refine box_event ?hg (N := 7) ?hd (cs := #[.slice none 0 0, .slice none 0 0, .slice none 0 0, .slice none 0 0, .slice none 0 0, .slice none 0 0, .slice none 0 0, .int .i64 0, .slice none 0 0, .slice none 0 0, .slice none 0 0]) (t := 33) ?hr ?_; (case hd => rfl); (case hg => rfl); (case hr => first | (go_simp; done) | (go_simp; rfl)); intro q1 hgq1 w4 hA hb; have Jq1 := Aside0.mk hA; have Mq1 := Aside0.mk (show W.heap.size ≤ q1 by have := HB3.out.size; omega); have hb := HB3.out.trans (hb.mono HB3.out.size); have HB4 := Aside0.mk hb; clear hb HB3; clear hA hgq1)
      | ((with_reducible refine gate_store (p := 7) rfl ?_); refine storeRow_event (g := q1) rfl rfl rfl (cs := #[.slice A0 m.types.length c0, .slice A1 m.imports.length c1, .slice A2 m.funcs.length c2, .slice A3 m.tables.length c3, .slice A4 m.mems.length c4, .slice A5 m.globals.length c5, .slice A6 m.exports.length c6, .int .i64 m.start, .slice A8 m.elems.length c8, .slice A9 m.codes.length c9, .slice A10 m.datas.length c10]) rfl rfl Jq1.out (by kernel_rfl) rfl (by simp [Value.oneCell']) ?_; intro w5 hA hb ho hs; have hb := hb W.heap.size W Mq1.out HB4.out; have HB5 := Aside0.mk hb; clear hb HB4; clear hA ho hs Jq1 Mq1)
      | ((with_reducible refine gate_dst (N := 37) rfl ?_); refine lit_event ?hg (N := 37) ?hd (cs := ((List.replicate d (0 : Int)).map (Value.int .u8)).toArray) (t := 5) (n := d) ?hr ?_; (case hd => rfl); (case hg => rfl); (case hr => first | (go_simp; done) | (go_simp; rfl)); intro q2 hgq2 w6 hA hb; have cq2 : (convert 48 9 (.slice (some ⟨q2, 0, none⟩) d d)).run Tryd.prog w6 = .ok (.string (strOfNums (List.replicate d 0))) _ := conv_rep hA; have HB6 := Aside0.mk (below_step HB5.out hb); clear hb HB5; clear hA hgq2)
      | (go_at_call 20; (with_reducible refine (section_is x _ SZ.out HB6.out).mono ?_); rintro e w7 ⟨rfl, hb⟩; have HB7 := Aside0.mk hb; clear hb HB6)
      | (go_at_call 13; (with_reducible refine (mod_er_c EB.out HT.out HB7.out).mono ?_); rintro e w8 ⟨rfl, hb⟩; have HB8 := Aside0.mk hb; clear hb HB7)
      | ((with_reducible refine gate_dst (N := 9) rfl ?_); refine box_event ?hg (N := 9) ?hd (cs := #[.slice none 0 0, .slice none 0 0, .slice none 0 0, .slice none 0 0, .slice none 0 0, .slice none 0 0, .slice none 0 0, .int .i64 0, .slice none 0 0, .slice none 0 0, .slice none 0 0]) (t := 33) ?hr ?_; (case hd => rfl); (case hg => rfl); (case hr => first | (go_simp; done) | (go_simp; rfl)); intro q3 hgq3 w9 hA hb; have Jq3 := Aside0.mk hA; have Mq3 := Aside0.mk (show W.heap.size ≤ q3 by have := HB8.out.size; omega); have hb := HB8.out.trans (hb.mono HB8.out.size); have HB9 := Aside0.mk hb; clear hb HB8; clear hA hgq3)
      | ((with_reducible refine gate_store (p := 9) rfl ?_); refine storeRow_event (g := q3) rfl rfl rfl (cs := #[.slice none 0 0, .slice none 0 0, .slice none 0 0, .slice none 0 0, .slice none 0 0, .slice none 0 0, .slice none 0 0, .int .i64 0, .slice none 0 0, .slice none 0 0, .slice none 0 0]) rfl rfl Jq3.out (by kernel_rfl) rfl (by simp [Value.oneCell']) ?_; intro w10 hA hb ho hs; have hb := hb W.heap.size W Mq3.out HB9.out; have HB10 := Aside0.mk hb; clear hb HB9; clear hA ho hs Jq3 Mq3)
      | (go_at_call 20; (with_reducible refine (section_is x ⟨#[]⟩ (by decide) HB10.out).mono ?_); rintro e w11 ⟨rfl, hb⟩; have HB11 := Aside0.mk hb; clear hb HB10)
      | (go_at_call 13; (with_reducible refine (mod_er_c EC.out HT.out HB11.out).mono ?_); rintro e w12 ⟨rfl, hb⟩; have HB12 := Aside0.mk hb; clear hb HB11)
      | ((with_reducible refine gate_dst (N := 11) rfl ?_); refine box_event ?hg (N := 11) ?hd (cs := #[.slice none 0 0, .slice none 0 0, .slice none 0 0, .slice none 0 0, .slice none 0 0, .slice none 0 0, .slice none 0 0, .int .i64 0, .slice none 0 0, .slice none 0 0, .slice none 0 0]) (t := 33) ?hr ?_; (case hd => rfl); (case hg => rfl); (case hr => first | (go_simp; done) | (go_simp; rfl)); intro q4 hgq4 w13 hA hb; have Jq4 := Aside0.mk hA; have Mq4 := Aside0.mk (show W.heap.size ≤ q4 by have := HB12.out.size; omega); have hb := HB12.out.trans (hb.mono HB12.out.size); have HB13 := Aside0.mk hb; clear hb HB12; clear hA hgq4)
      | ((with_reducible refine gate_store (p := 11) rfl ?_); refine storeRow_event (g := q4) rfl rfl rfl (cs := #[.slice none 0 0, .slice none 0 0, .slice none 0 0, .slice none 0 0, .slice none 0 0, .slice none 0 0, .slice none 0 0, .int .i64 0, .slice none 0 0, .slice none 0 0, .slice none 0 0]) rfl rfl Jq4.out (by kernel_rfl) rfl (by simp [Value.oneCell']) ?_; intro w14 hA hb ho hs; have hb := hb W.heap.size W Mq4.out HB13.out; have HB14 := Aside0.mk hb; clear hb HB13; clear hA ho hs Jq4 Mq4)
      | ((with_reducible refine gate_dst (N := 58) rfl ?_); refine lit_event ?hg (N := 58) ?hd (cs := #[.int .u8 x, .int .u8 (1 + (d : Int)), .int .u8 0]) (t := 5) (n := 3) ?hr ?_; (case hd => rfl); (case hg => rfl); (case hr => first | (go_simp; done) | (go_simp; rfl)); intro q5 hgq5 w15 hA hb; have cq5 : (convert 48 9 (.slice (some ⟨q5, 0, none⟩) 3 3)).run Tryd.prog w15 = .ok (.string (strOfNums [x, 1 + (d : Int), 0])) _ := conv_lit (zs := [x, 1 + (d : Int), 0]) hA rfl; have HB15 := Aside0.mk (below_step HB14.out hb); clear hb HB14; clear hA hgq5)
      | (go_at_call 13; (with_reducible refine (mod_er_c ED.out HT.out HB15.out).mono ?_); rintro e w16 ⟨rfl, hb⟩; have HB16 := Aside0.mk hb; clear hb HB15)
      | ((with_reducible refine gate_dst (N := 13) rfl ?_); refine box_event ?hg (N := 13) ?hd (cs := #[.slice none 0 0, .slice none 0 0, .slice none 0 0, .slice none 0 0, .slice none 0 0, .slice none 0 0, .slice none 0 0, .int .i64 0, .slice none 0 0, .slice none 0 0, .slice none 0 0]) (t := 33) ?hr ?_; (case hd => rfl); (case hg => rfl); (case hr => first | (go_simp; done) | (go_simp; rfl)); intro q6 hgq6 w17 hA hb; have Jq6 := Aside0.mk hA; have Mq6 := Aside0.mk (show W.heap.size ≤ q6 by have := HB16.out.size; omega); have hb := HB16.out.trans (hb.mono HB16.out.size); have HB17 := Aside0.mk hb; clear hb HB16; clear hA hgq6)
      | ((with_reducible refine gate_store (p := 13) rfl ?_); refine storeRow_event (g := q6) rfl rfl rfl (cs := #[.slice none 0 0, .slice none 0 0, .slice none 0 0, .slice none 0 0, .slice none 0 0, .slice none 0 0, .slice none 0 0, .int .i64 0, .slice none 0 0, .slice none 0 0, .slice none 0 0]) rfl rfl Jq6.out (by kernel_rfl) rfl (by simp [Value.oneCell']) ?_; intro w18 hA hb ho hs; have hb := hb W.heap.size W Mq6.out HB17.out; have HB18 := Aside0.mk hb; clear hb HB17; clear hA ho hs Jq6 Mq6)
      | (go_at_call 14; (with_reducible refine (num_is _ HB18.out).mono ?_); rintro e w19 ⟨rfl, hb⟩; have HB19 := Aside0.mk hb; clear hb HB18)
      | (go_at_call 14; (with_reducible refine (num_is _ HB19.out).mono ?_); rintro e w20 ⟨rfl, hb⟩; have HB20 := Aside0.mk hb; clear hb HB19)
      | (go_at_call 14; (with_reducible refine (num_is _ HB20.out).mono ?_); rintro e w21 ⟨rfl, hb⟩; have HB21 := Aside0.mk hb; clear hb HB20)
      | (go_at_call 14; (with_reducible refine (num_is _ HB21.out).mono ?_); rintro e w22 ⟨rfl, hb⟩; have HB22 := Aside0.mk hb; clear hb HB21))
    go_ret
    exact ⟨rfl, HB22.out⟩
theorem sizes_calls (a0 a1 : Int) (W : World) (hT : Tabs W) : Calls Tryd.prog 8 #[.int .i64 a0, .int .i64 a1] W fun e w' => e = .returned (.bool true) ∧ Below W.heap.size W w' := by
  have rx := u11_rng a0
  obtain ⟨z, hz⟩ : ∃ z, wrap64 (1 + wrap64 ((IntKind.u64.wrap a0).tmod 11)) = z := ⟨_, rfl⟩
  rw [hz] at rx
  obtain ⟨d, hd⟩ : ∃ d : Nat, (d : Int) = 1 + a1 % 8 := ⟨(1 + a1 % 8).toNat, by omega⟩
  by_cases h8 : z = 8
  · exact sizes_at a0 a1 9 z d W hz (.inl ⟨h8, rfl⟩) (by omega) (by omega) (by rw [and7, hd]) (by omega) (by omega) hT
  · exact sizes_at a0 a1 z z d W hz (.inr ⟨h8, rfl⟩) rx h8 (by rw [and7, hd]) (by omega) (by omega) hT
end Go.Proofs.YtkdoijfjceeblaaDoor.EDec
