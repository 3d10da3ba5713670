/-
  InstrOps: the walks, second half.
-/
import Derived.Test.YtbekfmeaeaghpaaELawOps0
namespace Go.Proofs.Ytbekfmeaeaghpaa.EInstr
open Go Go.RowKit Go.Proofs.Ytbekfmeaeaghpaa.F Go.Proofs.YtbekfmeaeaghpaaW.Hand Go.Proofs.YtbekfmeaeaghpaaW.PrintWords Go.Proofs.YtbekfmeaeaghpaaW.PrintLast Go.Proofs.YtbekfmeaeaghpaaW.PrintMore
open Go.Proofs.YtbekfmeaeaghpaaW.Byt
set_option linter.unusedVariables false
set_option linter.unusedSimpArgs false
set_option maxHeartbeats 16000000 in
set_option maxRecDepth 100000 in
theorem ops_2 (W : World) {z o : Int} (h : (5 ≤ o ∧ o ≤ 10) ∨ (18 ≤ o ∧ o ≤ 25) ∨ (28 ≤ o ∧ o ≤ 31) ∨ (37 ≤ o ∧ o ≤ 39) ∨ (192 ≤ o ∧ o ≤ 255)) (hz : Go.bits .and .i64 z 255 = o) : Calls Try.prog 7 #[.int .i64 z] W fun e w' => e = .returned (.bool true) ∧ Below W.heap.size W w' := by
  have B := Aside0.mk (Below.refl W.heap.size W)
  have u8 : IntKind.u8.wrap o = o := u8_id (by omega) (by omega)
  have MA := Aside0.mk (omay_2 h)
  have F : ((o == 0) = false ∧ (o == 1) = false ∧ (o == 15) = false ∧ (o == 26) = false ∧ (o == 27) = false ∧ (o == 12) = false ∧ (o == 13) = false ∧ (o == 16) = false ∧ (o == 14) = false ∧ (o == 17) = false ∧ (o == 63) = false ∧ (o == 64) = false ∧ (o == 65) = false ∧ (o == 66) = false ∧ (o == 67) = false ∧ (o == 68) = false ∧ (o == 11) = false ∧ decide (69 ≤ o) = false ∧ decide (2 ≤ o) = true ∧ decide (32 ≤ o) = false ∧ decide (40 ≤ o) = false ∧ decide (o ≤ 191) = true ∧ decide (o ≤ 4) = false ∧ decide (o ≤ 36) = true ∧ decide (o ≤ 62) = true) ∨ ((o == 0) = false ∧ (o == 1) = false ∧ (o == 15) = false ∧ (o == 26) = false ∧ (o == 27) = false ∧ (o == 12) = false ∧ (o == 13) = false ∧ (o == 16) = false ∧ (o == 14) = false ∧ (o == 17) = false ∧ (o == 63) = false ∧ (o == 64) = false ∧ (o == 65) = false ∧ (o == 66) = false ∧ (o == 67) = false ∧ (o == 68) = false ∧ (o == 11) = false ∧ decide (69 ≤ o) = false ∧ decide (2 ≤ o) = true ∧ decide (32 ≤ o) = false ∧ decide (40 ≤ o) = false ∧ decide (o ≤ 191) = true ∧ decide (o ≤ 4) = false ∧ decide (o ≤ 36) = true ∧ decide (o ≤ 62) = true) ∨ ((o == 0) = false ∧ (o == 1) = false ∧ (o == 15) = false ∧ (o == 26) = false ∧ (o == 27) = false ∧ (o == 12) = false ∧ (o == 13) = false ∧ (o == 16) = false ∧ (o == 14) = false ∧ (o == 17) = false ∧ (o == 63) = false ∧ (o == 64) = false ∧ (o == 65) = false ∧ (o == 66) = false ∧ (o == 67) = false ∧ (o == 68) = false ∧ (o == 11) = false ∧ decide (69 ≤ o) = false ∧ decide (2 ≤ o) = true ∧ decide (32 ≤ o) = false ∧ decide (40 ≤ o) = false ∧ decide (o ≤ 191) = true ∧ decide (o ≤ 4) = false ∧ decide (o ≤ 36) = true ∧ decide (o ≤ 62) = true) ∨ ((o == 0) = false ∧ (o == 1) = false ∧ (o == 15) = false ∧ (o == 26) = false ∧ (o == 27) = false ∧ (o == 12) = false ∧ (o == 13) = false ∧ (o == 16) = false ∧ (o == 14) = false ∧ (o == 17) = false ∧ (o == 63) = false ∧ (o == 64) = false ∧ (o == 65) = false ∧ (o == 66) = false ∧ (o == 67) = false ∧ (o == 68) = false ∧ (o == 11) = false ∧ decide (69 ≤ o) = false ∧ decide (2 ≤ o) = true ∧ decide (32 ≤ o) = true ∧ decide (40 ≤ o) = false ∧ decide (o ≤ 191) = true ∧ decide (o ≤ 4) = false ∧ decide (o ≤ 36) = false ∧ decide (o ≤ 62) = true) ∨ ((o == 0) = false ∧ (o == 1) = false ∧ (o == 15) = false ∧ (o == 26) = false ∧ (o == 27) = false ∧ (o == 12) = false ∧ (o == 13) = false ∧ (o == 16) = false ∧ (o == 14) = false ∧ (o == 17) = false ∧ (o == 63) = false ∧ (o == 64) = false ∧ (o == 65) = false ∧ (o == 66) = false ∧ (o == 67) = false ∧ (o == 68) = false ∧ (o == 11) = false ∧ decide (69 ≤ o) = true ∧ decide (2 ≤ o) = true ∧ decide (32 ≤ o) = true ∧ decide (40 ≤ o) = true ∧ decide (o ≤ 191) = false ∧ decide (o ≤ 4) = false ∧ decide (o ≤ 36) = false ∧ decide (o ≤ 62) = false) := by
    rcases h with h | h | h | h | h
    · exact .inl (by simp only [beq_iff_eq, beq_eq_false_iff_ne, decide_eq_true_eq, decide_eq_false_iff_not]; omega)
    · exact .inr (.inl (by simp only [beq_iff_eq, beq_eq_false_iff_ne, decide_eq_true_eq, decide_eq_false_iff_not]; omega))
    · exact .inr (.inr (.inl (by simp only [beq_iff_eq, beq_eq_false_iff_ne, decide_eq_true_eq, decide_eq_false_iff_not]; omega)))
    · exact .inr (.inr (.inr (.inl (by simp only [beq_iff_eq, beq_eq_false_iff_ne, decide_eq_true_eq, decide_eq_false_iff_not]; omega))))
    · exact .inr (.inr (.inr (.inr ((by simp only [beq_iff_eq, beq_eq_false_iff_ne, decide_eq_true_eq, decide_eq_false_iff_not]; omega)))))
  have GM := Aside0.mk (get_no (o := o) (by omega) (by omega) (oof_2 h) (by omega))
  have SZ := Aside0.mk (show (strOfNums [o, 0, 0, 0, 0]).size ≤ 1152921504606846976 by rw [LebBacks.size_str]; simp)
  clear h
  rcases F with ⟨q0, q1, q2, q3, q4, q5, q6, q7, q8, q9, q10, q11, q12, q13, q14, q15, q16, q17, q18, q19, q20, q21, q22, q23, q24⟩ | ⟨q0, q1, q2, q3, q4, q5, q6, q7, q8, q9, q10, q11, q12, q13, q14, q15, q16, q17, q18, q19, q20, q21, q22, q23, q24⟩ | ⟨q0, q1, q2, q3, q4, q5, q6, q7, q8, q9, q10, q11, q12, q13, q14, q15, q16, q17, q18, q19, q20, q21, q22, q23, q24⟩ | ⟨q0, q1, q2, q3, q4, q5, q6, q7, q8, q9, q10, q11, q12, q13, q14, q15, q16, q17, q18, q19, q20, q21, q22, q23, q24⟩ | ⟨q0, q1, q2, q3, q4, q5, q6, q7, q8, q9, q10, q11, q12, q13, q14, q15, q16, q17, q18, q19, q20, q21, q22, q23, q24⟩
  all_goals
    go_enter Try.func7, Try.ntmps7
    go_wp2_with (first
    | (go_at_call 20; (with_reducible refine (awake14_c _).mono ?_); rintro e w0 ⟨rfl, hb⟩; replace B := Aside0.mk (below_step B.out hb); clear hb)
    | ((with_reducible refine gate_dst (N := 4) rfl ?_); refine box_event ?hg (N := 4) ?hd (cs := #[.int .i64 0, .int .i64 0, .int .i64 0, .int .i64 0, .int .i64 0, .slice none 0 0, .slice none 0 0, .slice none 0 0]) (t := 44) ?hr ?_; (case hd => rfl); (case hg => rfl); (case hr => first | (go_simp; done) | (go_simp; rfl)); intro gi hggi w1 hA hb; have GE := Aside0.mk (show W.heap.size ≤ gi by have := B.out.size; omega); replace B := Aside0.mk (below_step B.out hb); have K := Aside0.mk hA; clear hggi hA hb)
    | ((with_reducible refine gate_store (p := 4) rfl ?_); refine storeRow_event (g := gi) rfl rfl rfl (cs := #[.int .i64 o, .int .i64 0, .int .i64 0, .int .i64 0, .int .i64 0, .slice none 0 0, .slice none 0 0, .slice none 0 0]) rfl rfl K.out (by kernel_rfl) rfl (by simp [Value.oneCell']) ?_; intro w2 hA hb ho hs; replace B := Aside0.mk (hb _ _ GE.out B.out); replace K := Aside0.mk hA; obtain ⟨y0, y1, y2, y3, y4, y5, y6, y7⟩ := ys8 K.out; clear hA hb ho hs)
    | ((with_reducible refine gate_dst (N := 142) rfl ?_); refine lit_event ?hg (N := 142) ?hd (cs := #[.int .i64 o, .int .i64 0, .int .i64 0, .int .i64 0, .int .i64 0, .slice none 0 0, .slice none 0 0, .slice none 0 0]) (t := 44) (n := 1) ?hr ?_; (case hd => rfl); (case hg => rfl); (case hr => first | (go_simp; done) | (go_simp; rfl)); intro gm hggm w3 hA hb;  replace B := Aside0.mk (below_step B.out hb); replace K := Aside0.mk (blk_below K.out hb); clear y0 y1 y2 y3 y4 y5 y6 y7; have P := Aside0.mk (show k44.C w3 (some ⟨gm, 0, none⟩) 1 [⟨o, 0, 0, 0, 0, [], [], []⟩] from c_leaf hA); clear hggm hA hb)
    | (go_at_call 14; (with_reducible refine (put_er P.out rfl (Nat.le_refl _) MA.out (by decide)).mono ?_); rintro e w4 ⟨rfl, hb⟩; replace P := Aside0.mk (Kd.C_below P.out hb); replace B := Aside0.mk (below_step B.out hb); replace K := Aside0.mk (blk_below K.out hb); clear hb)
    | ((with_reducible refine gate_dst (N := 151) rfl ?_); refine lit_event ?hg (N := 151) ?hd (cs := #[.int .u8 o, .int .u8 0, .int .u8 0, .int .u8 0, .int .u8 0]) (t := 5) (n := 5) ?hr ?_; (case hd => rfl); (case hg => rfl); (case hr => first | (go_simp; done) | (go_simp; rfl)); intro gq hggq w5 hA hb; replace P := Aside0.mk (Kd.C_below P.out hb); replace B := Aside0.mk (below_step B.out hb); replace K := Aside0.mk (blk_below K.out hb); have Q := Aside0.mk hA; clear hggq hA hb)
    | ((with_reducible refine gate_dst (N := 152) rfl ?_); refine string_event (g := gq) (n := 5) (c := 5) (ns := [o, 0, 0, 0, 0]) rfl rfl rfl rfl Try.underlying45 Try.underlying5 Try.underlying9 (row5 Q.out) ?_)
    | (go_at_call 21; (with_reducible refine (get_er GM.out SZ.out _).mono ?_); rintro e w6 ⟨rfl, hb⟩; replace P := Aside0.mk (Kd.C_below P.out hb); replace B := Aside0.mk (below_step B.out hb); replace K := Aside0.mk (blk_below K.out hb); clear hb)
    | (go_at_call 16; (with_reducible refine (num_c _ _).mono ?_); rintro e w' ⟨rfl, rfl⟩))
    go_ret
    exact ⟨rfl, B.out⟩
set_option maxHeartbeats 16000000 in
set_option maxRecDepth 100000 in
theorem ops_3 (W : World) {z o : Int} (h : 11 ≤ o ∧ o ≤ 11) (hz : Go.bits .and .i64 z 255 = o) : Calls Try.prog 7 #[.int .i64 z] W fun e w' => e = .returned (.bool true) ∧ Below W.heap.size W w' := by
  have B := Aside0.mk (Below.refl W.heap.size W)
  have u8 : IntKind.u8.wrap o = o := u8_id (by omega) (by omega)
  have MA := Aside0.mk (omay_3 h)
  have F : (o == 0) = false ∧ (o == 1) = false ∧ (o == 15) = false ∧ (o == 26) = false ∧ (o == 27) = false ∧ (o == 12) = false ∧ (o == 13) = false ∧ (o == 16) = false ∧ (o == 14) = false ∧ (o == 17) = false ∧ (o == 63) = false ∧ (o == 64) = false ∧ (o == 65) = false ∧ (o == 66) = false ∧ (o == 67) = false ∧ (o == 68) = false ∧ (o == 11) = true ∧ decide (69 ≤ o) = false ∧ decide (2 ≤ o) = true ∧ decide (32 ≤ o) = false ∧ decide (40 ≤ o) = false ∧ decide (o ≤ 191) = true ∧ decide (o ≤ 4) = false ∧ decide (o ≤ 36) = true ∧ decide (o ≤ 62) = true := by
    simp only [beq_iff_eq, beq_eq_false_iff_ne, decide_eq_true_eq, decide_eq_false_iff_not]
    omega
  have GM := Aside0.mk (show pGet (strOfNums [o, 0, 0, 0, 0]) 0 = .ok ([], 1) by obtain rfl : o = 11 := (by omega); exact get_11)
  have SZ := Aside0.mk (show (strOfNums [o, 0, 0, 0, 0]).size ≤ 1152921504606846976 by rw [LebBacks.size_str]; simp)
  clear h
  rcases F with ⟨q0, q1, q2, q3, q4, q5, q6, q7, q8, q9, q10, q11, q12, q13, q14, q15, q16, q17, q18, q19, q20, q21, q22, q23, q24⟩
  all_goals
    go_enter Try.func7, Try.ntmps7
    go_wp2_with (first
    | (go_at_call 20; (with_reducible refine (awake14_c _).mono ?_); rintro e w0 ⟨rfl, hb⟩; replace B := Aside0.mk (below_step B.out hb); clear hb)
    | ((with_reducible refine gate_dst (N := 4) rfl ?_); refine box_event ?hg (N := 4) ?hd (cs := #[.int .i64 0, .int .i64 0, .int .i64 0, .int .i64 0, .int .i64 0, .slice none 0 0, .slice none 0 0, .slice none 0 0]) (t := 44) ?hr ?_; (case hd => rfl); (case hg => rfl); (case hr => first | (go_simp; done) | (go_simp; rfl)); intro gi hggi w1 hA hb; have GE := Aside0.mk (show W.heap.size ≤ gi by have := B.out.size; omega); replace B := Aside0.mk (below_step B.out hb); have K := Aside0.mk hA; clear hggi hA hb)
    | ((with_reducible refine gate_store (p := 4) rfl ?_); refine storeRow_event (g := gi) rfl rfl rfl (cs := #[.int .i64 o, .int .i64 0, .int .i64 0, .int .i64 0, .int .i64 0, .slice none 0 0, .slice none 0 0, .slice none 0 0]) rfl rfl K.out (by kernel_rfl) rfl (by simp [Value.oneCell']) ?_; intro w2 hA hb ho hs; replace B := Aside0.mk (hb _ _ GE.out B.out); replace K := Aside0.mk hA; obtain ⟨y0, y1, y2, y3, y4, y5, y6, y7⟩ := ys8 K.out; clear hA hb ho hs)
    | ((with_reducible refine gate_dst (N := 142) rfl ?_); refine lit_event ?hg (N := 142) ?hd (cs := #[.int .i64 o, .int .i64 0, .int .i64 0, .int .i64 0, .int .i64 0, .slice none 0 0, .slice none 0 0, .slice none 0 0]) (t := 44) (n := 1) ?hr ?_; (case hd => rfl); (case hg => rfl); (case hr => first | (go_simp; done) | (go_simp; rfl)); intro gm hggm w3 hA hb;  replace B := Aside0.mk (below_step B.out hb); replace K := Aside0.mk (blk_below K.out hb); clear y0 y1 y2 y3 y4 y5 y6 y7; have P := Aside0.mk (show k44.C w3 (some ⟨gm, 0, none⟩) 1 [⟨o, 0, 0, 0, 0, [], [], []⟩] from c_leaf hA); clear hggm hA hb)
    | (go_at_call 14; (with_reducible refine (put_er P.out rfl (Nat.le_refl _) MA.out (by decide)).mono ?_); rintro e w4 ⟨rfl, hb⟩; replace P := Aside0.mk (Kd.C_below P.out hb); replace B := Aside0.mk (below_step B.out hb); replace K := Aside0.mk (blk_below K.out hb); clear hb)
    | ((with_reducible refine gate_dst (N := 151) rfl ?_); refine lit_event ?hg (N := 151) ?hd (cs := #[.int .u8 o, .int .u8 0, .int .u8 0, .int .u8 0, .int .u8 0]) (t := 5) (n := 5) ?hr ?_; (case hd => rfl); (case hg => rfl); (case hr => first | (go_simp; done) | (go_simp; rfl)); intro gq hggq w5 hA hb; replace P := Aside0.mk (Kd.C_below P.out hb); replace B := Aside0.mk (below_step B.out hb); replace K := Aside0.mk (blk_below K.out hb); have Q := Aside0.mk hA; clear hggq hA hb)
    | ((with_reducible refine gate_dst (N := 152) rfl ?_); refine string_event (g := gq) (n := 5) (c := 5) (ns := [o, 0, 0, 0, 0]) rfl rfl rfl rfl Try.underlying45 Try.underlying5 Try.underlying9 (row5 Q.out) ?_)
    | (go_at_call 21; (with_reducible refine (get_ok (n := 0) GM.out rfl SZ.out _).mono ?_); rintro e w6 ⟨AX, cX, rfl, hC, hc, hb⟩; replace P := Aside0.mk (Kd.C_below P.out hb); replace B := Aside0.mk (below_step B.out hb); replace K := Aside0.mk (blk_below K.out hb); clear hC hc hb)
    | (go_at_call 16; (with_reducible refine (num_c _ _).mono ?_); rintro e w' ⟨rfl, rfl⟩))
    go_ret
    exact ⟨rfl, B.out⟩
set_option maxHeartbeats 16000000 in
set_option maxRecDepth 100000 in
theorem ops_4 (W : World) {z o : Int} (h : (12 ≤ o ∧ o ≤ 12) ∨ (13 ≤ o ∧ o ≤ 13) ∨ (16 ≤ o ∧ o ≤ 16) ∨ (32 ≤ o ∧ o ≤ 36)) (hz : Go.bits .and .i64 z 255 = o) : Calls Try.prog 7 #[.int .i64 z] W fun e w' => e = .returned (.bool true) ∧ Below W.heap.size W w' := by
  have B := Aside0.mk (Below.refl W.heap.size W)
  have u8 : IntKind.u8.wrap o = o := u8_id (by omega) (by omega)
  have MA := Aside0.mk (omay_4 h)
  have F : ((o == 0) = false ∧ (o == 1) = false ∧ (o == 15) = false ∧ (o == 26) = false ∧ (o == 27) = false ∧ (o == 12) = true ∧ (o == 13) = false ∧ (o == 16) = false ∧ (o == 14) = false ∧ (o == 17) = false ∧ (o == 63) = false ∧ (o == 64) = false ∧ (o == 65) = false ∧ (o == 66) = false ∧ (o == 67) = false ∧ (o == 68) = false ∧ (o == 11) = false ∧ decide (69 ≤ o) = false ∧ decide (2 ≤ o) = true ∧ decide (32 ≤ o) = false ∧ decide (40 ≤ o) = false ∧ decide (o ≤ 191) = true ∧ decide (o ≤ 4) = false ∧ decide (o ≤ 36) = true ∧ decide (o ≤ 62) = true) ∨ ((o == 0) = false ∧ (o == 1) = false ∧ (o == 15) = false ∧ (o == 26) = false ∧ (o == 27) = false ∧ (o == 12) = false ∧ (o == 13) = true ∧ (o == 16) = false ∧ (o == 14) = false ∧ (o == 17) = false ∧ (o == 63) = false ∧ (o == 64) = false ∧ (o == 65) = false ∧ (o == 66) = false ∧ (o == 67) = false ∧ (o == 68) = false ∧ (o == 11) = false ∧ decide (69 ≤ o) = false ∧ decide (2 ≤ o) = true ∧ decide (32 ≤ o) = false ∧ decide (40 ≤ o) = false ∧ decide (o ≤ 191) = true ∧ decide (o ≤ 4) = false ∧ decide (o ≤ 36) = true ∧ decide (o ≤ 62) = true) ∨ ((o == 0) = false ∧ (o == 1) = false ∧ (o == 15) = false ∧ (o == 26) = false ∧ (o == 27) = false ∧ (o == 12) = false ∧ (o == 13) = false ∧ (o == 16) = true ∧ (o == 14) = false ∧ (o == 17) = false ∧ (o == 63) = false ∧ (o == 64) = false ∧ (o == 65) = false ∧ (o == 66) = false ∧ (o == 67) = false ∧ (o == 68) = false ∧ (o == 11) = false ∧ decide (69 ≤ o) = false ∧ decide (2 ≤ o) = true ∧ decide (32 ≤ o) = false ∧ decide (40 ≤ o) = false ∧ decide (o ≤ 191) = true ∧ decide (o ≤ 4) = false ∧ decide (o ≤ 36) = true ∧ decide (o ≤ 62) = true) ∨ ((o == 0) = false ∧ (o == 1) = false ∧ (o == 15) = false ∧ (o == 26) = false ∧ (o == 27) = false ∧ (o == 12) = false ∧ (o == 13) = false ∧ (o == 16) = false ∧ (o == 14) = false ∧ (o == 17) = false ∧ (o == 63) = false ∧ (o == 64) = false ∧ (o == 65) = false ∧ (o == 66) = false ∧ (o == 67) = false ∧ (o == 68) = false ∧ (o == 11) = false ∧ decide (69 ≤ o) = false ∧ decide (2 ≤ o) = true ∧ decide (32 ≤ o) = true ∧ decide (40 ≤ o) = false ∧ decide (o ≤ 191) = true ∧ decide (o ≤ 4) = false ∧ decide (o ≤ 36) = true ∧ decide (o ≤ 62) = true) := by
    rcases h with h | h | h | h
    · exact .inl (by simp only [beq_iff_eq, beq_eq_false_iff_ne, decide_eq_true_eq, decide_eq_false_iff_not]; omega)
    · exact .inr (.inl (by simp only [beq_iff_eq, beq_eq_false_iff_ne, decide_eq_true_eq, decide_eq_false_iff_not]; omega))
    · exact .inr (.inr (.inl (by simp only [beq_iff_eq, beq_eq_false_iff_ne, decide_eq_true_eq, decide_eq_false_iff_not]; omega)))
    · exact .inr (.inr (.inr ((by simp only [beq_iff_eq, beq_eq_false_iff_ne, decide_eq_true_eq, decide_eq_false_iff_not]; omega))))
  obtain ⟨s, hs⟩ : ∃ s, strOfNums [o, 5] = s := ⟨_, rfl⟩
  have PS := Aside0.mk (show putS [(⟨o, 5, 0, 0, 0, [], [], []⟩ : S44)] = s ++ ⟨#[11]⟩ by rw [oput_4 h, ← hs]; exact (str_app _ [11]).symm)
  have hS1 : s.size = 2 := by rw [← hs, LebBacks.size_str]; rfl
  have hS2 : ¬ s = ByteArray.empty := fun e => by rw [e] at hS1; cases hS1
  have hS4 : s.toList.isEmpty = false := by rw [← decide_eq_emptyBytes]; exact decide_eq_false hS2
  have WF := Aside0.mk (show wf64 [(⟨o, 5, 0, 0, 0, [], [], []⟩ : S44)] by simp [wf64_cons, wf64_nil])
  have hS3 : (s ++ ⟨#[11]⟩).size = 3 := by rw [ByteArray.size_append, hS1]; rfl
  have GM := Aside0.mk (show pGet (s ++ ⟨#[11]⟩) 0 = .ok ([(⟨o, 5, 0, 0, 0, [], [], []⟩ : S44)], 3) by have := back_all WF.out MA.out; rw [PS.out, hS3] at this; exact this)
  have SZ := Aside0.mk (show (s ++ ⟨#[11]⟩).size ≤ 1152921504606846976 by omega)
  clear h
  rcases F with ⟨q0, q1, q2, q3, q4, q5, q6, q7, q8, q9, q10, q11, q12, q13, q14, q15, q16, q17, q18, q19, q20, q21, q22, q23, q24⟩ | ⟨q0, q1, q2, q3, q4, q5, q6, q7, q8, q9, q10, q11, q12, q13, q14, q15, q16, q17, q18, q19, q20, q21, q22, q23, q24⟩ | ⟨q0, q1, q2, q3, q4, q5, q6, q7, q8, q9, q10, q11, q12, q13, q14, q15, q16, q17, q18, q19, q20, q21, q22, q23, q24⟩ | ⟨q0, q1, q2, q3, q4, q5, q6, q7, q8, q9, q10, q11, q12, q13, q14, q15, q16, q17, q18, q19, q20, q21, q22, q23, q24⟩
  all_goals
    go_enter Try.func7, Try.ntmps7
    go_wp2_with (first
    | (go_at_call 20; (with_reducible refine (awake14_c _).mono ?_); rintro e w0 ⟨rfl, hb⟩; replace B := Aside0.mk (below_step B.out hb); clear hb)
    | ((with_reducible refine gate_dst (N := 4) rfl ?_); refine box_event ?hg (N := 4) ?hd (cs := #[.int .i64 0, .int .i64 0, .int .i64 0, .int .i64 0, .int .i64 0, .slice none 0 0, .slice none 0 0, .slice none 0 0]) (t := 44) ?hr ?_; (case hd => rfl); (case hg => rfl); (case hr => first | (go_simp; done) | (go_simp; rfl)); intro gi hggi w1 hA hb; have GE := Aside0.mk (show W.heap.size ≤ gi by have := B.out.size; omega); replace B := Aside0.mk (below_step B.out hb); have K := Aside0.mk hA; clear hggi hA hb)
    | ((with_reducible refine gate_store (p := 4) rfl ?_); refine storeRow_event (g := gi) rfl rfl rfl (cs := #[.int .i64 o, .int .i64 0, .int .i64 0, .int .i64 0, .int .i64 0, .slice none 0 0, .slice none 0 0, .slice none 0 0]) rfl rfl K.out (by kernel_rfl) rfl (by simp [Value.oneCell']) ?_; intro w2 hA hb ho hs; replace B := Aside0.mk (hb _ _ GE.out B.out); replace K := Aside0.mk hA; clear hA hb ho hs)
    | ((with_reducible refine gate_store (p := 82) rfl ?_); refine storeCell_event (g := gi) (j := 1) (x := .int .i64 5) rfl rfl rfl rfl rfl K.out (by simp) (by kernel_rfl) rfl ?_; intro w3 hA hb ho hs; replace B := Aside0.mk (hb _ _ GE.out B.out); replace K : Aside0 (w3.heap[gi]? = some (.cells #[.int .i64 o, .int .i64 5, .int .i64 0, .int .i64 0, .int .i64 0, .slice none 0 0, .slice none 0 0, .slice none 0 0] 44 (0, 0))) := ⟨hA⟩;    clear hA hb ho hs)
    | ((with_reducible refine gate_dst (N := 85) rfl ?_); refine lit_event ?hg (N := 85) ?hd (cs := #[.int .u8 o, .int .u8 5]) (t := 5) (n := 2) ?hr ?_; (case hd => rfl); (case hg => rfl); (case hr => first | (go_simp; done) | (go_simp; rfl)); intro gq hggq w4 hA hb;  replace B := Aside0.mk (below_step B.out hb); replace K := Aside0.mk (blk_below K.out hb); obtain ⟨y0, y1, y2, y3, y4, y5, y6, y7⟩ := ys8 K.out; have Q := Aside0.mk hA; clear hggq hA hb)
    | ((with_reducible refine gate_dst (N := 86) rfl ?_); refine string_event (g := gq) (n := 2) (c := 2) (ns := [o, 5]) rfl rfl rfl rfl Try.underlying45 Try.underlying5 Try.underlying9 (row2 Q.out) ?_)
    | ((with_reducible refine gate_dst (N := 142) rfl ?_); refine lit_event ?hg (N := 142) ?hd (cs := #[.int .i64 o, .int .i64 5, .int .i64 0, .int .i64 0, .int .i64 0, .slice none 0 0, .slice none 0 0, .slice none 0 0]) (t := 44) (n := 1) ?hr ?_; (case hd => rfl); (case hg => rfl); (case hr => first | (go_simp; done) | (go_simp; rfl)); intro gm hggm w5 hA hb;  replace B := Aside0.mk (below_step B.out hb); replace K := Aside0.mk (blk_below K.out hb); clear y0 y1 y2 y3 y4 y5 y6 y7; have P := Aside0.mk (show k44.C w5 (some ⟨gm, 0, none⟩) 1 [⟨o, 5, 0, 0, 0, [], [], []⟩] from c_leaf hA); clear hggm hA hb)
    | (go_at_call 14; (with_reducible refine (put_ok P.out rfl (Nat.le_refl _) WF.out MA.out PS.out).mono ?_); rintro e w6 ⟨rfl, hb⟩; replace P := Aside0.mk (Kd.C_below P.out hb); replace B := Aside0.mk (below_step B.out hb); replace K := Aside0.mk (blk_below K.out hb); clear hb)
    | (go_at_call 21; (with_reducible refine (get_ok (n := 1) GM.out rfl SZ.out _).mono ?_); rintro e w7 ⟨AX, cX, rfl, hC, hc, hb⟩; replace P := Aside0.mk (Kd.C_below P.out hb); replace B := Aside0.mk (below_step B.out hb); replace K := Aside0.mk (blk_below K.out hb); obtain ⟨y0, y1, y2, y3, y4, y5, y6, y7⟩ := ys8 K.out; have X := Aside0.mk hC; have LX := Aside0.mk hc; clear hC hc hb)
    | (go_at_call 16; (with_reducible refine (num_c _ _).mono ?_); rintro e w' ⟨rfl, rfl⟩)
    | (go_at_call 19; (with_reducible refine (same_leaf X.out LX.out).mono ?_); rintro e w8 ⟨rfl, hb⟩; replace B := Aside0.mk (below_step B.out hb); clear hb))
    go_ret
    exact ⟨rfl, B.out⟩
set_option maxHeartbeats 16000000 in
set_option maxRecDepth 100000 in
theorem ops_5 (W : World) {z o : Int} (h : 14 ≤ o ∧ o ≤ 14) (hz : Go.bits .and .i64 z 255 = o) : Calls Try.prog 7 #[.int .i64 z] W fun e w' => e = .returned (.bool true) ∧ Below W.heap.size W w' := by
  have B := Aside0.mk (Below.refl W.heap.size W)
  have u8 : IntKind.u8.wrap o = o := u8_id (by omega) (by omega)
  have MA := Aside0.mk (omay_5 h)
  have F : (o == 0) = false ∧ (o == 1) = false ∧ (o == 15) = false ∧ (o == 26) = false ∧ (o == 27) = false ∧ (o == 12) = false ∧ (o == 13) = false ∧ (o == 16) = false ∧ (o == 14) = true ∧ (o == 17) = false ∧ (o == 63) = false ∧ (o == 64) = false ∧ (o == 65) = false ∧ (o == 66) = false ∧ (o == 67) = false ∧ (o == 68) = false ∧ (o == 11) = false ∧ decide (69 ≤ o) = false ∧ decide (2 ≤ o) = true ∧ decide (32 ≤ o) = false ∧ decide (40 ≤ o) = false ∧ decide (o ≤ 191) = true ∧ decide (o ≤ 4) = false ∧ decide (o ≤ 36) = true ∧ decide (o ≤ 62) = true := by
    simp only [beq_iff_eq, beq_eq_false_iff_ne, decide_eq_true_eq, decide_eq_false_iff_not]
    omega
  have PS := Aside0.mk (show putS [(⟨o, 0, 0, 0, 0, [3], [], []⟩ : S44)] = (⟨#[14, 0, 3]⟩ : ByteArray) ++ ⟨#[11]⟩ by rw [oput_5 h]; obtain rfl : o = 14 := (by omega); decide +kernel)
  have hS1 : (⟨#[14, 0, 3]⟩ : ByteArray).size = 3 := rfl
  have hS2 : ¬ (⟨#[14, 0, 3]⟩ : ByteArray) = ByteArray.empty := by decide +kernel
  have WF := Aside0.mk (show wf64 [(⟨o, 0, 0, 0, 0, [3], [], []⟩ : S44)] by simp [wf64_cons, wf64_nil])
  have hS3 : ((⟨#[14, 0, 3]⟩ : ByteArray) ++ ⟨#[11]⟩).size = 4 := by rw [ByteArray.size_append, hS1]; rfl
  have GM := Aside0.mk (show pGet ((⟨#[14, 0, 3]⟩ : ByteArray) ++ ⟨#[11]⟩) 0 = .ok ([(⟨o, 0, 0, 0, 0, [3], [], []⟩ : S44)], 4) by have := back_all WF.out MA.out; rw [PS.out, hS3] at this; exact this)
  have SZ := Aside0.mk (show ((⟨#[14, 0, 3]⟩ : ByteArray) ++ ⟨#[11]⟩).size ≤ 1152921504606846976 by omega)
  clear h
  rcases F with ⟨q0, q1, q2, q3, q4, q5, q6, q7, q8, q9, q10, q11, q12, q13, q14, q15, q16, q17, q18, q19, q20, q21, q22, q23, q24⟩
  all_goals
    go_enter Try.func7, Try.ntmps7
    go_wp2_with (first
    | (go_at_call 20; (with_reducible refine (awake14_c _).mono ?_); rintro e w0 ⟨rfl, hb⟩; replace B := Aside0.mk (below_step B.out hb); clear hb)
    | ((with_reducible refine gate_dst (N := 4) rfl ?_); refine box_event ?hg (N := 4) ?hd (cs := #[.int .i64 0, .int .i64 0, .int .i64 0, .int .i64 0, .int .i64 0, .slice none 0 0, .slice none 0 0, .slice none 0 0]) (t := 44) ?hr ?_; (case hd => rfl); (case hg => rfl); (case hr => first | (go_simp; done) | (go_simp; rfl)); intro gi hggi w1 hA hb; have GE := Aside0.mk (show W.heap.size ≤ gi by have := B.out.size; omega); replace B := Aside0.mk (below_step B.out hb); have K := Aside0.mk hA; clear hggi hA hb)
    | ((with_reducible refine gate_store (p := 4) rfl ?_); refine storeRow_event (g := gi) rfl rfl rfl (cs := #[.int .i64 o, .int .i64 0, .int .i64 0, .int .i64 0, .int .i64 0, .slice none 0 0, .slice none 0 0, .slice none 0 0]) rfl rfl K.out (by kernel_rfl) rfl (by simp [Value.oneCell']) ?_; intro w2 hA hb ho hs; replace B := Aside0.mk (hb _ _ GE.out B.out); replace K := Aside0.mk hA; clear hA hb ho hs)
    | ((with_reducible refine gate_dst (N := 90) rfl ?_); refine lit_event ?hg (N := 90) ?hd (cs := #[.int .i64 3]) (t := 3) (n := 1) ?hr ?_; (case hd => rfl); (case hg => rfl); (case hr => first | (go_simp; done) | (go_simp; rfl)); intro gl hggl w3 hA hb; have NX := Aside0.mk (show gl ≠ gi by have := blk_lt K.out; omega);  replace B := Aside0.mk (below_step B.out hb); replace K := Aside0.mk (blk_below K.out hb); have XL := Aside0.mk hA; clear hggl hA hb)
    | ((with_reducible refine gate_store (p := 91) rfl ?_); refine storeCell_event (g := gi) (j := 5) (x := .slice (some ⟨gl, 0, none⟩) 1 1) rfl rfl rfl rfl rfl K.out (by simp) (by kernel_rfl) rfl ?_; intro w4 hA hb ho hs; replace B := Aside0.mk (hb _ _ GE.out B.out); replace K : Aside0 (w4.heap[gi]? = some (.cells #[.int .i64 o, .int .i64 0, .int .i64 0, .int .i64 0, .int .i64 0, .slice (some ⟨gl, 0, none⟩) 1 1, .slice none 0 0, .slice none 0 0] 44 (0, 0))) := ⟨hA⟩; replace XL := Aside0.mk ((ho gl NX.out).trans XL.out);   obtain ⟨y0, y1, y2, y3, y4, y5, y6, y7⟩ := ys8 K.out; clear hA hb ho hs)
    | ((with_reducible refine gate_dst (N := 142) rfl ?_); refine lit_event ?hg (N := 142) ?hd (cs := #[.int .i64 o, .int .i64 0, .int .i64 0, .int .i64 0, .int .i64 0, .slice (some ⟨gl, 0, none⟩) 1 1, .slice none 0 0, .slice none 0 0]) (t := 44) (n := 1) ?hr ?_; (case hd => rfl); (case hg => rfl); (case hr => first | (go_simp; done) | (go_simp; rfl)); intro gm hggm w5 hA hb; replace XL := Aside0.mk (blk_below XL.out hb); replace B := Aside0.mk (below_step B.out hb); replace K := Aside0.mk (blk_below K.out hb); clear y0 y1 y2 y3 y4 y5 y6 y7; have P := Aside0.mk (show k44.C w5 (some ⟨gm, 0, none⟩) 1 [⟨o, 0, 0, 0, 0, [3], [], []⟩] from c_lab1 (l := [3]) hA (c_int1o XL.out)); clear hggm hA hb)
    | (go_at_call 14; (with_reducible refine (put_ok P.out rfl (Nat.le_refl _) WF.out MA.out PS.out).mono ?_); rintro e w6 ⟨rfl, hb⟩; replace XL := Aside0.mk (blk_below XL.out hb); replace P := Aside0.mk (Kd.C_below P.out hb); replace B := Aside0.mk (below_step B.out hb); replace K := Aside0.mk (blk_below K.out hb); clear hb)
    | (go_at_call 21; (with_reducible refine (get_ok (n := 1) GM.out rfl SZ.out _).mono ?_); rintro e w7 ⟨AX, cX, rfl, hC, hc, hb⟩; replace XL := Aside0.mk (blk_below XL.out hb); replace P := Aside0.mk (Kd.C_below P.out hb); replace B := Aside0.mk (below_step B.out hb); replace K := Aside0.mk (blk_below K.out hb); obtain ⟨y0, y1, y2, y3, y4, y5, y6, y7⟩ := ys8 K.out; have X := Aside0.mk hC; have LX := Aside0.mk hc; clear hC hc hb)
    | (go_at_call 16; (with_reducible refine (num_c _ _).mono ?_); rintro e w' ⟨rfl, rfl⟩)
    | (go_at_call 19; (with_reducible refine (same_lab X.out LX.out XL.out).mono ?_); rintro e w8 ⟨rfl, hb⟩; replace B := Aside0.mk (below_step B.out hb); clear hb))
    go_ret
    exact ⟨rfl, B.out⟩
set_option maxHeartbeats 16000000 in
set_option maxRecDepth 100000 in
theorem ops_6 (W : World) {z o : Int} (h : 17 ≤ o ∧ o ≤ 17) (hz : Go.bits .and .i64 z 255 = o) : Calls Try.prog 7 #[.int .i64 z] W fun e w' => e = .returned (.bool true) ∧ Below W.heap.size W w' := by
  have B := Aside0.mk (Below.refl W.heap.size W)
  have u8 : IntKind.u8.wrap o = o := u8_id (by omega) (by omega)
  have MA := Aside0.mk (omay_6 h)
  have F : (o == 0) = false ∧ (o == 1) = false ∧ (o == 15) = false ∧ (o == 26) = false ∧ (o == 27) = false ∧ (o == 12) = false ∧ (o == 13) = false ∧ (o == 16) = false ∧ (o == 14) = false ∧ (o == 17) = true ∧ (o == 63) = false ∧ (o == 64) = false ∧ (o == 65) = false ∧ (o == 66) = false ∧ (o == 67) = false ∧ (o == 68) = false ∧ (o == 11) = false ∧ decide (69 ≤ o) = false ∧ decide (2 ≤ o) = true ∧ decide (32 ≤ o) = false ∧ decide (40 ≤ o) = false ∧ decide (o ≤ 191) = true ∧ decide (o ≤ 4) = false ∧ decide (o ≤ 36) = true ∧ decide (o ≤ 62) = true := by
    simp only [beq_iff_eq, beq_eq_false_iff_ne, decide_eq_true_eq, decide_eq_false_iff_not]
    omega
  have PS := Aside0.mk (show putS [(⟨o, 2, 0, 0, 0, [], [], []⟩ : S44)] = (⟨#[17, 2, 0]⟩ : ByteArray) ++ ⟨#[11]⟩ by rw [oput_6 h]; obtain rfl : o = 17 := (by omega); decide +kernel)
  have hS1 : (⟨#[17, 2, 0]⟩ : ByteArray).size = 3 := rfl
  have hS2 : ¬ (⟨#[17, 2, 0]⟩ : ByteArray) = ByteArray.empty := by decide +kernel
  have WF := Aside0.mk (show wf64 [(⟨o, 2, 0, 0, 0, [], [], []⟩ : S44)] by simp [wf64_cons, wf64_nil])
  have hS3 : ((⟨#[17, 2, 0]⟩ : ByteArray) ++ ⟨#[11]⟩).size = 4 := by rw [ByteArray.size_append, hS1]; rfl
  have GM := Aside0.mk (show pGet ((⟨#[17, 2, 0]⟩ : ByteArray) ++ ⟨#[11]⟩) 0 = .ok ([(⟨o, 2, 0, 0, 0, [], [], []⟩ : S44)], 4) by have := back_all WF.out MA.out; rw [PS.out, hS3] at this; exact this)
  have SZ := Aside0.mk (show ((⟨#[17, 2, 0]⟩ : ByteArray) ++ ⟨#[11]⟩).size ≤ 1152921504606846976 by omega)
  clear h
  rcases F with ⟨q0, q1, q2, q3, q4, q5, q6, q7, q8, q9, q10, q11, q12, q13, q14, q15, q16, q17, q18, q19, q20, q21, q22, q23, q24⟩
  all_goals
    go_enter Try.func7, Try.ntmps7
    go_wp2_with (first
    | (go_at_call 20; (with_reducible refine (awake14_c _).mono ?_); rintro e w0 ⟨rfl, hb⟩; replace B := Aside0.mk (below_step B.out hb); clear hb)
    | ((with_reducible refine gate_dst (N := 4) rfl ?_); refine box_event ?hg (N := 4) ?hd (cs := #[.int .i64 0, .int .i64 0, .int .i64 0, .int .i64 0, .int .i64 0, .slice none 0 0, .slice none 0 0, .slice none 0 0]) (t := 44) ?hr ?_; (case hd => rfl); (case hg => rfl); (case hr => first | (go_simp; done) | (go_simp; rfl)); intro gi hggi w1 hA hb; have GE := Aside0.mk (show W.heap.size ≤ gi by have := B.out.size; omega); replace B := Aside0.mk (below_step B.out hb); have K := Aside0.mk hA; clear hggi hA hb)
    | ((with_reducible refine gate_store (p := 4) rfl ?_); refine storeRow_event (g := gi) rfl rfl rfl (cs := #[.int .i64 o, .int .i64 0, .int .i64 0, .int .i64 0, .int .i64 0, .slice none 0 0, .slice none 0 0, .slice none 0 0]) rfl rfl K.out (by kernel_rfl) rfl (by simp [Value.oneCell']) ?_; intro w2 hA hb ho hs; replace B := Aside0.mk (hb _ _ GE.out B.out); replace K := Aside0.mk hA; clear hA hb ho hs)
    | ((with_reducible refine gate_store (p := 95) rfl ?_); refine storeCell_event (g := gi) (j := 1) (x := .int .i64 2) rfl rfl rfl rfl rfl K.out (by simp) (by kernel_rfl) rfl ?_; intro w3 hA hb ho hs; replace B := Aside0.mk (hb _ _ GE.out B.out); replace K : Aside0 (w3.heap[gi]? = some (.cells #[.int .i64 o, .int .i64 2, .int .i64 0, .int .i64 0, .int .i64 0, .slice none 0 0, .slice none 0 0, .slice none 0 0] 44 (0, 0))) := ⟨hA⟩;    obtain ⟨y0, y1, y2, y3, y4, y5, y6, y7⟩ := ys8 K.out; clear hA hb ho hs)
    | ((with_reducible refine gate_dst (N := 142) rfl ?_); refine lit_event ?hg (N := 142) ?hd (cs := #[.int .i64 o, .int .i64 2, .int .i64 0, .int .i64 0, .int .i64 0, .slice none 0 0, .slice none 0 0, .slice none 0 0]) (t := 44) (n := 1) ?hr ?_; (case hd => rfl); (case hg => rfl); (case hr => first | (go_simp; done) | (go_simp; rfl)); intro gm hggm w4 hA hb;  replace B := Aside0.mk (below_step B.out hb); replace K := Aside0.mk (blk_below K.out hb); clear y0 y1 y2 y3 y4 y5 y6 y7; have P := Aside0.mk (show k44.C w4 (some ⟨gm, 0, none⟩) 1 [⟨o, 2, 0, 0, 0, [], [], []⟩] from c_leaf hA); clear hggm hA hb)
    | (go_at_call 14; (with_reducible refine (put_ok P.out rfl (Nat.le_refl _) WF.out MA.out PS.out).mono ?_); rintro e w5 ⟨rfl, hb⟩; replace P := Aside0.mk (Kd.C_below P.out hb); replace B := Aside0.mk (below_step B.out hb); replace K := Aside0.mk (blk_below K.out hb); clear hb)
    | (go_at_call 21; (with_reducible refine (get_ok (n := 1) GM.out rfl SZ.out _).mono ?_); rintro e w6 ⟨AX, cX, rfl, hC, hc, hb⟩; replace P := Aside0.mk (Kd.C_below P.out hb); replace B := Aside0.mk (below_step B.out hb); replace K := Aside0.mk (blk_below K.out hb); obtain ⟨y0, y1, y2, y3, y4, y5, y6, y7⟩ := ys8 K.out; have X := Aside0.mk hC; have LX := Aside0.mk hc; clear hC hc hb)
    | (go_at_call 16; (with_reducible refine (num_c _ _).mono ?_); rintro e w' ⟨rfl, rfl⟩)
    | (go_at_call 19; (with_reducible refine (same_leaf X.out LX.out).mono ?_); rintro e w7 ⟨rfl, hb⟩; replace B := Aside0.mk (below_step B.out hb); clear hb))
    go_ret
    exact ⟨rfl, B.out⟩
set_option maxHeartbeats 16000000 in
set_option maxRecDepth 100000 in
theorem ops_7 (W : World) {z o : Int} (h : 40 ≤ o ∧ o ≤ 62) (hz : Go.bits .and .i64 z 255 = o) : Calls Try.prog 7 #[.int .i64 z] W fun e w' => e = .returned (.bool true) ∧ Below W.heap.size W w' := by
  have B := Aside0.mk (Below.refl W.heap.size W)
  have u8 : IntKind.u8.wrap o = o := u8_id (by omega) (by omega)
  have MA := Aside0.mk (omay_7 h)
  have F : (o == 0) = false ∧ (o == 1) = false ∧ (o == 15) = false ∧ (o == 26) = false ∧ (o == 27) = false ∧ (o == 12) = false ∧ (o == 13) = false ∧ (o == 16) = false ∧ (o == 14) = false ∧ (o == 17) = false ∧ (o == 63) = false ∧ (o == 64) = false ∧ (o == 65) = false ∧ (o == 66) = false ∧ (o == 67) = false ∧ (o == 68) = false ∧ (o == 11) = false ∧ decide (69 ≤ o) = false ∧ decide (2 ≤ o) = true ∧ decide (32 ≤ o) = true ∧ decide (40 ≤ o) = true ∧ decide (o ≤ 191) = true ∧ decide (o ≤ 4) = false ∧ decide (o ≤ 36) = false ∧ decide (o ≤ 62) = true := by
    simp only [beq_iff_eq, beq_eq_false_iff_ne, decide_eq_true_eq, decide_eq_false_iff_not]
    omega
  obtain ⟨s, hs⟩ : ∃ s, strOfNums [o, 1, 7] = s := ⟨_, rfl⟩
  have PS := Aside0.mk (show putS [(⟨o, 1, 7, 0, 0, [], [], []⟩ : S44)] = s ++ ⟨#[11]⟩ by rw [oput_7 h, ← hs]; exact (str_app _ [11]).symm)
  have hS1 : s.size = 3 := by rw [← hs, LebBacks.size_str]; rfl
  have hS2 : ¬ s = ByteArray.empty := fun e => by rw [e] at hS1; cases hS1
  have hS4 : s.toList.isEmpty = false := by rw [← decide_eq_emptyBytes]; exact decide_eq_false hS2
  have WF := Aside0.mk (show wf64 [(⟨o, 1, 7, 0, 0, [], [], []⟩ : S44)] by simp [wf64_cons, wf64_nil])
  have hS3 : (s ++ ⟨#[11]⟩).size = 4 := by rw [ByteArray.size_append, hS1]; rfl
  have GM := Aside0.mk (show pGet (s ++ ⟨#[11]⟩) 0 = .ok ([(⟨o, 1, 7, 0, 0, [], [], []⟩ : S44)], 4) by have := back_all WF.out MA.out; rw [PS.out, hS3] at this; exact this)
  have SZ := Aside0.mk (show (s ++ ⟨#[11]⟩).size ≤ 1152921504606846976 by omega)
  clear h
  rcases F with ⟨q0, q1, q2, q3, q4, q5, q6, q7, q8, q9, q10, q11, q12, q13, q14, q15, q16, q17, q18, q19, q20, q21, q22, q23, q24⟩
  all_goals
    go_enter Try.func7, Try.ntmps7
    go_wp2_with (first
    | (go_at_call 20; (with_reducible refine (awake14_c _).mono ?_); rintro e w0 ⟨rfl, hb⟩; replace B := Aside0.mk (below_step B.out hb); clear hb)
    | ((with_reducible refine gate_dst (N := 4) rfl ?_); refine box_event ?hg (N := 4) ?hd (cs := #[.int .i64 0, .int .i64 0, .int .i64 0, .int .i64 0, .int .i64 0, .slice none 0 0, .slice none 0 0, .slice none 0 0]) (t := 44) ?hr ?_; (case hd => rfl); (case hg => rfl); (case hr => first | (go_simp; done) | (go_simp; rfl)); intro gi hggi w1 hA hb; have GE := Aside0.mk (show W.heap.size ≤ gi by have := B.out.size; omega); replace B := Aside0.mk (below_step B.out hb); have K := Aside0.mk hA; clear hggi hA hb)
    | ((with_reducible refine gate_store (p := 4) rfl ?_); refine storeRow_event (g := gi) rfl rfl rfl (cs := #[.int .i64 o, .int .i64 0, .int .i64 0, .int .i64 0, .int .i64 0, .slice none 0 0, .slice none 0 0, .slice none 0 0]) rfl rfl K.out (by kernel_rfl) rfl (by simp [Value.oneCell']) ?_; intro w2 hA hb ho hs; replace B := Aside0.mk (hb _ _ GE.out B.out); replace K := Aside0.mk hA; clear hA hb ho hs)
    | ((with_reducible refine gate_store (p := 103) rfl ?_); refine storeCell_event (g := gi) (j := 1) (x := .int .i64 1) rfl rfl rfl rfl rfl K.out (by simp) (by kernel_rfl) rfl ?_; intro w3 hA hb ho hs; replace B := Aside0.mk (hb _ _ GE.out B.out); replace K : Aside0 (w3.heap[gi]? = some (.cells #[.int .i64 o, .int .i64 1, .int .i64 0, .int .i64 0, .int .i64 0, .slice none 0 0, .slice none 0 0, .slice none 0 0] 44 (0, 0))) := ⟨hA⟩;    clear hA hb ho hs)
    | ((with_reducible refine gate_store (p := 104) rfl ?_); refine storeCell_event (g := gi) (j := 2) (x := .int .i64 7) rfl rfl rfl rfl rfl K.out (by simp) (by kernel_rfl) rfl ?_; intro w4 hA hb ho hs; replace B := Aside0.mk (hb _ _ GE.out B.out); replace K : Aside0 (w4.heap[gi]? = some (.cells #[.int .i64 o, .int .i64 1, .int .i64 7, .int .i64 0, .int .i64 0, .slice none 0 0, .slice none 0 0, .slice none 0 0] 44 (0, 0))) := ⟨hA⟩;    clear hA hb ho hs)
    | ((with_reducible refine gate_dst (N := 107) rfl ?_); refine lit_event ?hg (N := 107) ?hd (cs := #[.int .u8 o, .int .u8 1, .int .u8 7]) (t := 5) (n := 3) ?hr ?_; (case hd => rfl); (case hg => rfl); (case hr => first | (go_simp; done) | (go_simp; rfl)); intro gq hggq w5 hA hb;  replace B := Aside0.mk (below_step B.out hb); replace K := Aside0.mk (blk_below K.out hb); obtain ⟨y0, y1, y2, y3, y4, y5, y6, y7⟩ := ys8 K.out; have Q := Aside0.mk hA; clear hggq hA hb)
    | ((with_reducible refine gate_dst (N := 108) rfl ?_); refine string_event (g := gq) (n := 3) (c := 3) (ns := [o, 1, 7]) rfl rfl rfl rfl Try.underlying45 Try.underlying5 Try.underlying9 (row3 Q.out) ?_)
    | ((with_reducible refine gate_dst (N := 142) rfl ?_); refine lit_event ?hg (N := 142) ?hd (cs := #[.int .i64 o, .int .i64 1, .int .i64 7, .int .i64 0, .int .i64 0, .slice none 0 0, .slice none 0 0, .slice none 0 0]) (t := 44) (n := 1) ?hr ?_; (case hd => rfl); (case hg => rfl); (case hr => first | (go_simp; done) | (go_simp; rfl)); intro gm hggm w6 hA hb;  replace B := Aside0.mk (below_step B.out hb); replace K := Aside0.mk (blk_below K.out hb); clear y0 y1 y2 y3 y4 y5 y6 y7; have P := Aside0.mk (show k44.C w6 (some ⟨gm, 0, none⟩) 1 [⟨o, 1, 7, 0, 0, [], [], []⟩] from c_leaf hA); clear hggm hA hb)
    | (go_at_call 14; (with_reducible refine (put_ok P.out rfl (Nat.le_refl _) WF.out MA.out PS.out).mono ?_); rintro e w7 ⟨rfl, hb⟩; replace P := Aside0.mk (Kd.C_below P.out hb); replace B := Aside0.mk (below_step B.out hb); replace K := Aside0.mk (blk_below K.out hb); clear hb)
    | (go_at_call 21; (with_reducible refine (get_ok (n := 1) GM.out rfl SZ.out _).mono ?_); rintro e w8 ⟨AX, cX, rfl, hC, hc, hb⟩; replace P := Aside0.mk (Kd.C_below P.out hb); replace B := Aside0.mk (below_step B.out hb); replace K := Aside0.mk (blk_below K.out hb); obtain ⟨y0, y1, y2, y3, y4, y5, y6, y7⟩ := ys8 K.out; have X := Aside0.mk hC; have LX := Aside0.mk hc; clear hC hc hb)
    | (go_at_call 16; (with_reducible refine (num_c _ _).mono ?_); rintro e w' ⟨rfl, rfl⟩)
    | (go_at_call 19; (with_reducible refine (same_leaf X.out LX.out).mono ?_); rintro e w9 ⟨rfl, hb⟩; replace B := Aside0.mk (below_step B.out hb); clear hb))
    go_ret
    exact ⟨rfl, B.out⟩
set_option maxHeartbeats 16000000 in
set_option maxRecDepth 100000 in
theorem ops_8 (W : World) {z o : Int} (h : (63 ≤ o ∧ o ≤ 63) ∨ (64 ≤ o ∧ o ≤ 64)) (hz : Go.bits .and .i64 z 255 = o) : Calls Try.prog 7 #[.int .i64 z] W fun e w' => e = .returned (.bool true) ∧ Below W.heap.size W w' := by
  have B := Aside0.mk (Below.refl W.heap.size W)
  have u8 : IntKind.u8.wrap o = o := u8_id (by omega) (by omega)
  have MA := Aside0.mk (omay_8 h)
  have F : ((o == 0) = false ∧ (o == 1) = false ∧ (o == 15) = false ∧ (o == 26) = false ∧ (o == 27) = false ∧ (o == 12) = false ∧ (o == 13) = false ∧ (o == 16) = false ∧ (o == 14) = false ∧ (o == 17) = false ∧ (o == 63) = true ∧ (o == 64) = false ∧ (o == 65) = false ∧ (o == 66) = false ∧ (o == 67) = false ∧ (o == 68) = false ∧ (o == 11) = false ∧ decide (69 ≤ o) = false ∧ decide (2 ≤ o) = true ∧ decide (32 ≤ o) = true ∧ decide (40 ≤ o) = true ∧ decide (o ≤ 191) = true ∧ decide (o ≤ 4) = false ∧ decide (o ≤ 36) = false ∧ decide (o ≤ 62) = false) ∨ ((o == 0) = false ∧ (o == 1) = false ∧ (o == 15) = false ∧ (o == 26) = false ∧ (o == 27) = false ∧ (o == 12) = false ∧ (o == 13) = false ∧ (o == 16) = false ∧ (o == 14) = false ∧ (o == 17) = false ∧ (o == 63) = false ∧ (o == 64) = true ∧ (o == 65) = false ∧ (o == 66) = false ∧ (o == 67) = false ∧ (o == 68) = false ∧ (o == 11) = false ∧ decide (69 ≤ o) = false ∧ decide (2 ≤ o) = true ∧ decide (32 ≤ o) = true ∧ decide (40 ≤ o) = true ∧ decide (o ≤ 191) = true ∧ decide (o ≤ 4) = false ∧ decide (o ≤ 36) = false ∧ decide (o ≤ 62) = false) := by
    rcases h with h | h
    · exact .inl (by simp only [beq_iff_eq, beq_eq_false_iff_ne, decide_eq_true_eq, decide_eq_false_iff_not]; omega)
    · exact .inr ((by simp only [beq_iff_eq, beq_eq_false_iff_ne, decide_eq_true_eq, decide_eq_false_iff_not]; omega))
  obtain ⟨s, hs⟩ : ∃ s, strOfNums [o, 0] = s := ⟨_, rfl⟩
  have PS := Aside0.mk (show putS [(⟨o, 0, 0, 0, 0, [], [], []⟩ : S44)] = s ++ ⟨#[11]⟩ by rw [oput_8 h, ← hs]; exact (str_app _ [11]).symm)
  have hS1 : s.size = 2 := by rw [← hs, LebBacks.size_str]; rfl
  have hS2 : ¬ s = ByteArray.empty := fun e => by rw [e] at hS1; cases hS1
  have hS4 : s.toList.isEmpty = false := by rw [← decide_eq_emptyBytes]; exact decide_eq_false hS2
  have WF := Aside0.mk (show wf64 [(⟨o, 0, 0, 0, 0, [], [], []⟩ : S44)] by simp [wf64_cons, wf64_nil])
  have hS3 : (s ++ ⟨#[11]⟩).size = 3 := by rw [ByteArray.size_append, hS1]; rfl
  have GM := Aside0.mk (show pGet (s ++ ⟨#[11]⟩) 0 = .ok ([(⟨o, 0, 0, 0, 0, [], [], []⟩ : S44)], 3) by have := back_all WF.out MA.out; rw [PS.out, hS3] at this; exact this)
  have SZ := Aside0.mk (show (s ++ ⟨#[11]⟩).size ≤ 1152921504606846976 by omega)
  clear h
  rcases F with ⟨q0, q1, q2, q3, q4, q5, q6, q7, q8, q9, q10, q11, q12, q13, q14, q15, q16, q17, q18, q19, q20, q21, q22, q23, q24⟩ | ⟨q0, q1, q2, q3, q4, q5, q6, q7, q8, q9, q10, q11, q12, q13, q14, q15, q16, q17, q18, q19, q20, q21, q22, q23, q24⟩
  all_goals
    go_enter Try.func7, Try.ntmps7
    go_wp2_with (first
    | (go_at_call 20; (with_reducible refine (awake14_c _).mono ?_); rintro e w0 ⟨rfl, hb⟩; replace B := Aside0.mk (below_step B.out hb); clear hb)
    | ((with_reducible refine gate_dst (N := 4) rfl ?_); refine box_event ?hg (N := 4) ?hd (cs := #[.int .i64 0, .int .i64 0, .int .i64 0, .int .i64 0, .int .i64 0, .slice none 0 0, .slice none 0 0, .slice none 0 0]) (t := 44) ?hr ?_; (case hd => rfl); (case hg => rfl); (case hr => first | (go_simp; done) | (go_simp; rfl)); intro gi hggi w1 hA hb; have GE := Aside0.mk (show W.heap.size ≤ gi by have := B.out.size; omega); replace B := Aside0.mk (below_step B.out hb); have K := Aside0.mk hA; clear hggi hA hb)
    | ((with_reducible refine gate_store (p := 4) rfl ?_); refine storeRow_event (g := gi) rfl rfl rfl (cs := #[.int .i64 o, .int .i64 0, .int .i64 0, .int .i64 0, .int .i64 0, .slice none 0 0, .slice none 0 0, .slice none 0 0]) rfl rfl K.out (by kernel_rfl) rfl (by simp [Value.oneCell']) ?_; intro w2 hA hb ho hs; replace B := Aside0.mk (hb _ _ GE.out B.out); replace K := Aside0.mk hA; clear hA hb ho hs)
    | ((with_reducible refine gate_dst (N := 118) rfl ?_); refine lit_event ?hg (N := 118) ?hd (cs := #[.int .u8 o, .int .u8 0]) (t := 5) (n := 2) ?hr ?_; (case hd => rfl); (case hg => rfl); (case hr => first | (go_simp; done) | (go_simp; rfl)); intro gq hggq w3 hA hb;  replace B := Aside0.mk (below_step B.out hb); replace K := Aside0.mk (blk_below K.out hb); obtain ⟨y0, y1, y2, y3, y4, y5, y6, y7⟩ := ys8 K.out; have Q := Aside0.mk hA; clear hggq hA hb)
    | ((with_reducible refine gate_dst (N := 119) rfl ?_); refine string_event (g := gq) (n := 2) (c := 2) (ns := [o, 0]) rfl rfl rfl rfl Try.underlying45 Try.underlying5 Try.underlying9 (row2 Q.out) ?_)
    | ((with_reducible refine gate_dst (N := 142) rfl ?_); refine lit_event ?hg (N := 142) ?hd (cs := #[.int .i64 o, .int .i64 0, .int .i64 0, .int .i64 0, .int .i64 0, .slice none 0 0, .slice none 0 0, .slice none 0 0]) (t := 44) (n := 1) ?hr ?_; (case hd => rfl); (case hg => rfl); (case hr => first | (go_simp; done) | (go_simp; rfl)); intro gm hggm w4 hA hb;  replace B := Aside0.mk (below_step B.out hb); replace K := Aside0.mk (blk_below K.out hb); clear y0 y1 y2 y3 y4 y5 y6 y7; have P := Aside0.mk (show k44.C w4 (some ⟨gm, 0, none⟩) 1 [⟨o, 0, 0, 0, 0, [], [], []⟩] from c_leaf hA); clear hggm hA hb)
    | (go_at_call 14; (with_reducible refine (put_ok P.out rfl (Nat.le_refl _) WF.out MA.out PS.out).mono ?_); rintro e w5 ⟨rfl, hb⟩; replace P := Aside0.mk (Kd.C_below P.out hb); replace B := Aside0.mk (below_step B.out hb); replace K := Aside0.mk (blk_below K.out hb); clear hb)
    | (go_at_call 21; (with_reducible refine (get_ok (n := 1) GM.out rfl SZ.out _).mono ?_); rintro e w6 ⟨AX, cX, rfl, hC, hc, hb⟩; replace P := Aside0.mk (Kd.C_below P.out hb); replace B := Aside0.mk (below_step B.out hb); replace K := Aside0.mk (blk_below K.out hb); obtain ⟨y0, y1, y2, y3, y4, y5, y6, y7⟩ := ys8 K.out; have X := Aside0.mk hC; have LX := Aside0.mk hc; clear hC hc hb)
    | (go_at_call 16; (with_reducible refine (num_c _ _).mono ?_); rintro e w' ⟨rfl, rfl⟩)
    | (go_at_call 19; (with_reducible refine (same_leaf X.out LX.out).mono ?_); rintro e w7 ⟨rfl, hb⟩; replace B := Aside0.mk (below_step B.out hb); clear hb))
    go_ret
    exact ⟨rfl, B.out⟩
set_option maxHeartbeats 16000000 in
set_option maxRecDepth 100000 in
theorem ops_9 (W : World) {z o : Int} (h : (65 ≤ o ∧ o ≤ 65) ∨ (66 ≤ o ∧ o ≤ 66)) (hz : Go.bits .and .i64 z 255 = o) : Calls Try.prog 7 #[.int .i64 z] W fun e w' => e = .returned (.bool true) ∧ Below W.heap.size W w' := by
  have B := Aside0.mk (Below.refl W.heap.size W)
  have u8 : IntKind.u8.wrap o = o := u8_id (by omega) (by omega)
  have MA := Aside0.mk (omay_9 h)
  have F : ((o == 0) = false ∧ (o == 1) = false ∧ (o == 15) = false ∧ (o == 26) = false ∧ (o == 27) = false ∧ (o == 12) = false ∧ (o == 13) = false ∧ (o == 16) = false ∧ (o == 14) = false ∧ (o == 17) = false ∧ (o == 63) = false ∧ (o == 64) = false ∧ (o == 65) = true ∧ (o == 66) = false ∧ (o == 67) = false ∧ (o == 68) = false ∧ (o == 11) = false ∧ decide (69 ≤ o) = false ∧ decide (2 ≤ o) = true ∧ decide (32 ≤ o) = true ∧ decide (40 ≤ o) = true ∧ decide (o ≤ 191) = true ∧ decide (o ≤ 4) = false ∧ decide (o ≤ 36) = false ∧ decide (o ≤ 62) = false) ∨ ((o == 0) = false ∧ (o == 1) = false ∧ (o == 15) = false ∧ (o == 26) = false ∧ (o == 27) = false ∧ (o == 12) = false ∧ (o == 13) = false ∧ (o == 16) = false ∧ (o == 14) = false ∧ (o == 17) = false ∧ (o == 63) = false ∧ (o == 64) = false ∧ (o == 65) = false ∧ (o == 66) = true ∧ (o == 67) = false ∧ (o == 68) = false ∧ (o == 11) = false ∧ decide (69 ≤ o) = false ∧ decide (2 ≤ o) = true ∧ decide (32 ≤ o) = true ∧ decide (40 ≤ o) = true ∧ decide (o ≤ 191) = true ∧ decide (o ≤ 4) = false ∧ decide (o ≤ 36) = false ∧ decide (o ≤ 62) = false) := by
    rcases h with h | h
    · exact .inl (by simp only [beq_iff_eq, beq_eq_false_iff_ne, decide_eq_true_eq, decide_eq_false_iff_not]; omega)
    · exact .inr ((by simp only [beq_iff_eq, beq_eq_false_iff_ne, decide_eq_true_eq, decide_eq_false_iff_not]; omega))
  obtain ⟨s, hs⟩ : ∃ s, strOfNums [o, 9] = s := ⟨_, rfl⟩
  have PS := Aside0.mk (show putS [(⟨o, 0, 0, 9, 0, [], [], []⟩ : S44)] = s ++ ⟨#[11]⟩ by rw [oput_9 h, ← hs]; exact (str_app _ [11]).symm)
  have hS1 : s.size = 2 := by rw [← hs, LebBacks.size_str]; rfl
  have hS2 : ¬ s = ByteArray.empty := fun e => by rw [e] at hS1; cases hS1
  have hS4 : s.toList.isEmpty = false := by rw [← decide_eq_emptyBytes]; exact decide_eq_false hS2
  have WF := Aside0.mk (show wf64 [(⟨o, 0, 0, 9, 0, [], [], []⟩ : S44)] by simp [wf64_cons, wf64_nil])
  have hS3 : (s ++ ⟨#[11]⟩).size = 3 := by rw [ByteArray.size_append, hS1]; rfl
  have GM := Aside0.mk (show pGet (s ++ ⟨#[11]⟩) 0 = .ok ([(⟨o, 0, 0, 9, 0, [], [], []⟩ : S44)], 3) by have := back_all WF.out MA.out; rw [PS.out, hS3] at this; exact this)
  have SZ := Aside0.mk (show (s ++ ⟨#[11]⟩).size ≤ 1152921504606846976 by omega)
  clear h
  rcases F with ⟨q0, q1, q2, q3, q4, q5, q6, q7, q8, q9, q10, q11, q12, q13, q14, q15, q16, q17, q18, q19, q20, q21, q22, q23, q24⟩ | ⟨q0, q1, q2, q3, q4, q5, q6, q7, q8, q9, q10, q11, q12, q13, q14, q15, q16, q17, q18, q19, q20, q21, q22, q23, q24⟩
  all_goals
    go_enter Try.func7, Try.ntmps7
    go_wp2_with (first
    | (go_at_call 20; (with_reducible refine (awake14_c _).mono ?_); rintro e w0 ⟨rfl, hb⟩; replace B := Aside0.mk (below_step B.out hb); clear hb)
    | ((with_reducible refine gate_dst (N := 4) rfl ?_); refine box_event ?hg (N := 4) ?hd (cs := #[.int .i64 0, .int .i64 0, .int .i64 0, .int .i64 0, .int .i64 0, .slice none 0 0, .slice none 0 0, .slice none 0 0]) (t := 44) ?hr ?_; (case hd => rfl); (case hg => rfl); (case hr => first | (go_simp; done) | (go_simp; rfl)); intro gi hggi w1 hA hb; have GE := Aside0.mk (show W.heap.size ≤ gi by have := B.out.size; omega); replace B := Aside0.mk (below_step B.out hb); have K := Aside0.mk hA; clear hggi hA hb)
    | ((with_reducible refine gate_store (p := 4) rfl ?_); refine storeRow_event (g := gi) rfl rfl rfl (cs := #[.int .i64 o, .int .i64 0, .int .i64 0, .int .i64 0, .int .i64 0, .slice none 0 0, .slice none 0 0, .slice none 0 0]) rfl rfl K.out (by kernel_rfl) rfl (by simp [Value.oneCell']) ?_; intro w2 hA hb ho hs; replace B := Aside0.mk (hb _ _ GE.out B.out); replace K := Aside0.mk hA; clear hA hb ho hs)
    | ((with_reducible refine gate_store (p := 127) rfl ?_); refine storeCell_event (g := gi) (j := 3) (x := .int .i64 9) rfl rfl rfl rfl rfl K.out (by simp) (by kernel_rfl) rfl ?_; intro w3 hA hb ho hs; replace B := Aside0.mk (hb _ _ GE.out B.out); replace K : Aside0 (w3.heap[gi]? = some (.cells #[.int .i64 o, .int .i64 0, .int .i64 0, .int .i64 9, .int .i64 0, .slice none 0 0, .slice none 0 0, .slice none 0 0] 44 (0, 0))) := ⟨hA⟩;    clear hA hb ho hs)
    | ((with_reducible refine gate_dst (N := 130) rfl ?_); refine lit_event ?hg (N := 130) ?hd (cs := #[.int .u8 o, .int .u8 9]) (t := 5) (n := 2) ?hr ?_; (case hd => rfl); (case hg => rfl); (case hr => first | (go_simp; done) | (go_simp; rfl)); intro gq hggq w4 hA hb;  replace B := Aside0.mk (below_step B.out hb); replace K := Aside0.mk (blk_below K.out hb); obtain ⟨y0, y1, y2, y3, y4, y5, y6, y7⟩ := ys8 K.out; have Q := Aside0.mk hA; clear hggq hA hb)
    | ((with_reducible refine gate_dst (N := 131) rfl ?_); refine string_event (g := gq) (n := 2) (c := 2) (ns := [o, 9]) rfl rfl rfl rfl Try.underlying45 Try.underlying5 Try.underlying9 (row2 Q.out) ?_)
    | ((with_reducible refine gate_dst (N := 142) rfl ?_); refine lit_event ?hg (N := 142) ?hd (cs := #[.int .i64 o, .int .i64 0, .int .i64 0, .int .i64 9, .int .i64 0, .slice none 0 0, .slice none 0 0, .slice none 0 0]) (t := 44) (n := 1) ?hr ?_; (case hd => rfl); (case hg => rfl); (case hr => first | (go_simp; done) | (go_simp; rfl)); intro gm hggm w5 hA hb;  replace B := Aside0.mk (below_step B.out hb); replace K := Aside0.mk (blk_below K.out hb); clear y0 y1 y2 y3 y4 y5 y6 y7; have P := Aside0.mk (show k44.C w5 (some ⟨gm, 0, none⟩) 1 [⟨o, 0, 0, 9, 0, [], [], []⟩] from c_leaf hA); clear hggm hA hb)
    | (go_at_call 14; (with_reducible refine (put_ok P.out rfl (Nat.le_refl _) WF.out MA.out PS.out).mono ?_); rintro e w6 ⟨rfl, hb⟩; replace P := Aside0.mk (Kd.C_below P.out hb); replace B := Aside0.mk (below_step B.out hb); replace K := Aside0.mk (blk_below K.out hb); clear hb)
    | (go_at_call 21; (with_reducible refine (get_ok (n := 1) GM.out rfl SZ.out _).mono ?_); rintro e w7 ⟨AX, cX, rfl, hC, hc, hb⟩; replace P := Aside0.mk (Kd.C_below P.out hb); replace B := Aside0.mk (below_step B.out hb); replace K := Aside0.mk (blk_below K.out hb); obtain ⟨y0, y1, y2, y3, y4, y5, y6, y7⟩ := ys8 K.out; have X := Aside0.mk hC; have LX := Aside0.mk hc; clear hC hc hb)
    | (go_at_call 16; (with_reducible refine (num_c _ _).mono ?_); rintro e w' ⟨rfl, rfl⟩)
    | (go_at_call 19; (with_reducible refine (same_leaf X.out LX.out).mono ?_); rintro e w8 ⟨rfl, hb⟩; replace B := Aside0.mk (below_step B.out hb); clear hb))
    go_ret
    exact ⟨rfl, B.out⟩
set_option maxHeartbeats 16000000 in
set_option maxRecDepth 100000 in
theorem ops_10 (W : World) {z o : Int} (h : 67 ≤ o ∧ o ≤ 67) (hz : Go.bits .and .i64 z 255 = o) : Calls Try.prog 7 #[.int .i64 z] W fun e w' => e = .returned (.bool true) ∧ Below W.heap.size W w' := by
  have B := Aside0.mk (Below.refl W.heap.size W)
  have u8 : IntKind.u8.wrap o = o := u8_id (by omega) (by omega)
  have MA := Aside0.mk (omay_10 h)
  have F : (o == 0) = false ∧ (o == 1) = false ∧ (o == 15) = false ∧ (o == 26) = false ∧ (o == 27) = false ∧ (o == 12) = false ∧ (o == 13) = false ∧ (o == 16) = false ∧ (o == 14) = false ∧ (o == 17) = false ∧ (o == 63) = false ∧ (o == 64) = false ∧ (o == 65) = false ∧ (o == 66) = false ∧ (o == 67) = true ∧ (o == 68) = false ∧ (o == 11) = false ∧ decide (69 ≤ o) = false ∧ decide (2 ≤ o) = true ∧ decide (32 ≤ o) = true ∧ decide (40 ≤ o) = true ∧ decide (o ≤ 191) = true ∧ decide (o ≤ 4) = false ∧ decide (o ≤ 36) = false ∧ decide (o ≤ 62) = false := by
    simp only [beq_iff_eq, beq_eq_false_iff_ne, decide_eq_true_eq, decide_eq_false_iff_not]
    omega
  have PS := Aside0.mk (show putS [(⟨o, 0, 0, 1, 0, [], [], []⟩ : S44)] = (⟨#[67, 1, 0, 0, 0]⟩ : ByteArray) ++ ⟨#[11]⟩ by rw [oput_10 h]; obtain rfl : o = 67 := (by omega); decide +kernel)
  have hS1 : (⟨#[67, 1, 0, 0, 0]⟩ : ByteArray).size = 5 := rfl
  have hS2 : ¬ (⟨#[67, 1, 0, 0, 0]⟩ : ByteArray) = ByteArray.empty := by decide +kernel
  have WF := Aside0.mk (show wf64 [(⟨o, 0, 0, 1, 0, [], [], []⟩ : S44)] by simp [wf64_cons, wf64_nil])
  have hS3 : ((⟨#[67, 1, 0, 0, 0]⟩ : ByteArray) ++ ⟨#[11]⟩).size = 6 := by rw [ByteArray.size_append, hS1]; rfl
  have GM := Aside0.mk (show pGet ((⟨#[67, 1, 0, 0, 0]⟩ : ByteArray) ++ ⟨#[11]⟩) 0 = .ok ([(⟨o, 0, 0, 1, 0, [], [], []⟩ : S44)], 6) by have := back_all WF.out MA.out; rw [PS.out, hS3] at this; exact this)
  have SZ := Aside0.mk (show ((⟨#[67, 1, 0, 0, 0]⟩ : ByteArray) ++ ⟨#[11]⟩).size ≤ 1152921504606846976 by omega)
  clear h
  rcases F with ⟨q0, q1, q2, q3, q4, q5, q6, q7, q8, q9, q10, q11, q12, q13, q14, q15, q16, q17, q18, q19, q20, q21, q22, q23, q24⟩
  all_goals
    go_enter Try.func7, Try.ntmps7
    go_wp2_with (first
    | (go_at_call 20; (with_reducible refine (awake14_c _).mono ?_); rintro e w0 ⟨rfl, hb⟩; replace B := Aside0.mk (below_step B.out hb); clear hb)
    | ((with_reducible refine gate_dst (N := 4) rfl ?_); refine box_event ?hg (N := 4) ?hd (cs := #[.int .i64 0, .int .i64 0, .int .i64 0, .int .i64 0, .int .i64 0, .slice none 0 0, .slice none 0 0, .slice none 0 0]) (t := 44) ?hr ?_; (case hd => rfl); (case hg => rfl); (case hr => first | (go_simp; done) | (go_simp; rfl)); intro gi hggi w1 hA hb; have GE := Aside0.mk (show W.heap.size ≤ gi by have := B.out.size; omega); replace B := Aside0.mk (below_step B.out hb); have K := Aside0.mk hA; clear hggi hA hb)
    | ((with_reducible refine gate_store (p := 4) rfl ?_); refine storeRow_event (g := gi) rfl rfl rfl (cs := #[.int .i64 o, .int .i64 0, .int .i64 0, .int .i64 0, .int .i64 0, .slice none 0 0, .slice none 0 0, .slice none 0 0]) rfl rfl K.out (by kernel_rfl) rfl (by simp [Value.oneCell']) ?_; intro w2 hA hb ho hs; replace B := Aside0.mk (hb _ _ GE.out B.out); replace K := Aside0.mk hA; clear hA hb ho hs)
    | ((with_reducible refine gate_store (p := 135) rfl ?_); refine storeCell_event (g := gi) (j := 3) (x := .int .i64 1) rfl rfl rfl rfl rfl K.out (by simp) (by kernel_rfl) rfl ?_; intro w3 hA hb ho hs; replace B := Aside0.mk (hb _ _ GE.out B.out); replace K : Aside0 (w3.heap[gi]? = some (.cells #[.int .i64 o, .int .i64 0, .int .i64 0, .int .i64 1, .int .i64 0, .slice none 0 0, .slice none 0 0, .slice none 0 0] 44 (0, 0))) := ⟨hA⟩;    obtain ⟨y0, y1, y2, y3, y4, y5, y6, y7⟩ := ys8 K.out; clear hA hb ho hs)
    | ((with_reducible refine gate_dst (N := 142) rfl ?_); refine lit_event ?hg (N := 142) ?hd (cs := #[.int .i64 o, .int .i64 0, .int .i64 0, .int .i64 1, .int .i64 0, .slice none 0 0, .slice none 0 0, .slice none 0 0]) (t := 44) (n := 1) ?hr ?_; (case hd => rfl); (case hg => rfl); (case hr => first | (go_simp; done) | (go_simp; rfl)); intro gm hggm w4 hA hb;  replace B := Aside0.mk (below_step B.out hb); replace K := Aside0.mk (blk_below K.out hb); clear y0 y1 y2 y3 y4 y5 y6 y7; have P := Aside0.mk (show k44.C w4 (some ⟨gm, 0, none⟩) 1 [⟨o, 0, 0, 1, 0, [], [], []⟩] from c_leaf hA); clear hggm hA hb)
    | (go_at_call 14; (with_reducible refine (put_ok P.out rfl (Nat.le_refl _) WF.out MA.out PS.out).mono ?_); rintro e w5 ⟨rfl, hb⟩; replace P := Aside0.mk (Kd.C_below P.out hb); replace B := Aside0.mk (below_step B.out hb); replace K := Aside0.mk (blk_below K.out hb); clear hb)
    | (go_at_call 21; (with_reducible refine (get_ok (n := 1) GM.out rfl SZ.out _).mono ?_); rintro e w6 ⟨AX, cX, rfl, hC, hc, hb⟩; replace P := Aside0.mk (Kd.C_below P.out hb); replace B := Aside0.mk (below_step B.out hb); replace K := Aside0.mk (blk_below K.out hb); obtain ⟨y0, y1, y2, y3, y4, y5, y6, y7⟩ := ys8 K.out; have X := Aside0.mk hC; have LX := Aside0.mk hc; clear hC hc hb)
    | (go_at_call 16; (with_reducible refine (num_c _ _).mono ?_); rintro e w' ⟨rfl, rfl⟩)
    | (go_at_call 19; (with_reducible refine (same_leaf X.out LX.out).mono ?_); rintro e w7 ⟨rfl, hb⟩; replace B := Aside0.mk (below_step B.out hb); clear hb))
    go_ret
    exact ⟨rfl, B.out⟩
set_option maxHeartbeats 16000000 in
set_option maxRecDepth 100000 in
theorem ops_11 (W : World) {z o : Int} (h : 68 ≤ o ∧ o ≤ 68) (hz : Go.bits .and .i64 z 255 = o) : Calls Try.prog 7 #[.int .i64 z] W fun e w' => e = .returned (.bool true) ∧ Below W.heap.size W w' := by
  have B := Aside0.mk (Below.refl W.heap.size W)
  have u8 : IntKind.u8.wrap o = o := u8_id (by omega) (by omega)
  have MA := Aside0.mk (omay_11 h)
  have F : (o == 0) = false ∧ (o == 1) = false ∧ (o == 15) = false ∧ (o == 26) = false ∧ (o == 27) = false ∧ (o == 12) = false ∧ (o == 13) = false ∧ (o == 16) = false ∧ (o == 14) = false ∧ (o == 17) = false ∧ (o == 63) = false ∧ (o == 64) = false ∧ (o == 65) = false ∧ (o == 66) = false ∧ (o == 67) = false ∧ (o == 68) = true ∧ (o == 11) = false ∧ decide (69 ≤ o) = false ∧ decide (2 ≤ o) = true ∧ decide (32 ≤ o) = true ∧ decide (40 ≤ o) = true ∧ decide (o ≤ 191) = true ∧ decide (o ≤ 4) = false ∧ decide (o ≤ 36) = false ∧ decide (o ≤ 62) = false := by
    simp only [beq_iff_eq, beq_eq_false_iff_ne, decide_eq_true_eq, decide_eq_false_iff_not]
    omega
  have PS := Aside0.mk (show putS [(⟨o, 0, 0, 1, 0, [], [], []⟩ : S44)] = (⟨#[68, 1, 0, 0, 0, 0, 0, 0, 0]⟩ : ByteArray) ++ ⟨#[11]⟩ by rw [oput_11 h]; obtain rfl : o = 68 := (by omega); decide +kernel)
  have hS1 : (⟨#[68, 1, 0, 0, 0, 0, 0, 0, 0]⟩ : ByteArray).size = 9 := rfl
  have hS2 : ¬ (⟨#[68, 1, 0, 0, 0, 0, 0, 0, 0]⟩ : ByteArray) = ByteArray.empty := by decide +kernel
  have WF := Aside0.mk (show wf64 [(⟨o, 0, 0, 1, 0, [], [], []⟩ : S44)] by simp [wf64_cons, wf64_nil])
  have hS3 : ((⟨#[68, 1, 0, 0, 0, 0, 0, 0, 0]⟩ : ByteArray) ++ ⟨#[11]⟩).size = 10 := by rw [ByteArray.size_append, hS1]; rfl
  have GM := Aside0.mk (show pGet ((⟨#[68, 1, 0, 0, 0, 0, 0, 0, 0]⟩ : ByteArray) ++ ⟨#[11]⟩) 0 = .ok ([(⟨o, 0, 0, 1, 0, [], [], []⟩ : S44)], 10) by have := back_all WF.out MA.out; rw [PS.out, hS3] at this; exact this)
  have SZ := Aside0.mk (show ((⟨#[68, 1, 0, 0, 0, 0, 0, 0, 0]⟩ : ByteArray) ++ ⟨#[11]⟩).size ≤ 1152921504606846976 by omega)
  clear h
  rcases F with ⟨q0, q1, q2, q3, q4, q5, q6, q7, q8, q9, q10, q11, q12, q13, q14, q15, q16, q17, q18, q19, q20, q21, q22, q23, q24⟩
  all_goals
    go_enter Try.func7, Try.ntmps7
    go_wp2_with (first
    | (go_at_call 20; (with_reducible refine (awake14_c _).mono ?_); rintro e w0 ⟨rfl, hb⟩; replace B := Aside0.mk (below_step B.out hb); clear hb)
    | ((with_reducible refine gate_dst (N := 4) rfl ?_); refine box_event ?hg (N := 4) ?hd (cs := #[.int .i64 0, .int .i64 0, .int .i64 0, .int .i64 0, .int .i64 0, .slice none 0 0, .slice none 0 0, .slice none 0 0]) (t := 44) ?hr ?_; (case hd => rfl); (case hg => rfl); (case hr => first | (go_simp; done) | (go_simp; rfl)); intro gi hggi w1 hA hb; have GE := Aside0.mk (show W.heap.size ≤ gi by have := B.out.size; omega); replace B := Aside0.mk (below_step B.out hb); have K := Aside0.mk hA; clear hggi hA hb)
    | ((with_reducible refine gate_store (p := 4) rfl ?_); refine storeRow_event (g := gi) rfl rfl rfl (cs := #[.int .i64 o, .int .i64 0, .int .i64 0, .int .i64 0, .int .i64 0, .slice none 0 0, .slice none 0 0, .slice none 0 0]) rfl rfl K.out (by kernel_rfl) rfl (by simp [Value.oneCell']) ?_; intro w2 hA hb ho hs; replace B := Aside0.mk (hb _ _ GE.out B.out); replace K := Aside0.mk hA; clear hA hb ho hs)
    | ((with_reducible refine gate_store (p := 139) rfl ?_); refine storeCell_event (g := gi) (j := 3) (x := .int .i64 1) rfl rfl rfl rfl rfl K.out (by simp) (by kernel_rfl) rfl ?_; intro w3 hA hb ho hs; replace B := Aside0.mk (hb _ _ GE.out B.out); replace K : Aside0 (w3.heap[gi]? = some (.cells #[.int .i64 o, .int .i64 0, .int .i64 0, .int .i64 1, .int .i64 0, .slice none 0 0, .slice none 0 0, .slice none 0 0] 44 (0, 0))) := ⟨hA⟩;    obtain ⟨y0, y1, y2, y3, y4, y5, y6, y7⟩ := ys8 K.out; clear hA hb ho hs)
    | ((with_reducible refine gate_dst (N := 142) rfl ?_); refine lit_event ?hg (N := 142) ?hd (cs := #[.int .i64 o, .int .i64 0, .int .i64 0, .int .i64 1, .int .i64 0, .slice none 0 0, .slice none 0 0, .slice none 0 0]) (t := 44) (n := 1) ?hr ?_; (case hd => rfl); (case hg => rfl); (case hr => first | (go_simp; done) | (go_simp; rfl)); intro gm hggm w4 hA hb;  replace B := Aside0.mk (below_step B.out hb); replace K := Aside0.mk (blk_below K.out hb); clear y0 y1 y2 y3 y4 y5 y6 y7; have P := Aside0.mk (show k44.C w4 (some ⟨gm, 0, none⟩) 1 [⟨o, 0, 0, 1, 0, [], [], []⟩] from c_leaf hA); clear hggm hA hb)
    | (go_at_call 14; (with_reducible refine (put_ok P.out rfl (Nat.le_refl _) WF.out MA.out PS.out).mono ?_); rintro e w5 ⟨rfl, hb⟩; replace P := Aside0.mk (Kd.C_below P.out hb); replace B := Aside0.mk (below_step B.out hb); replace K := Aside0.mk (blk_below K.out hb); clear hb)
    | (go_at_call 21; (with_reducible refine (get_ok (n := 1) GM.out rfl SZ.out _).mono ?_); rintro e w6 ⟨AX, cX, rfl, hC, hc, hb⟩; replace P := Aside0.mk (Kd.C_below P.out hb); replace B := Aside0.mk (below_step B.out hb); replace K := Aside0.mk (blk_below K.out hb); obtain ⟨y0, y1, y2, y3, y4, y5, y6, y7⟩ := ys8 K.out; have X := Aside0.mk hC; have LX := Aside0.mk hc; clear hC hc hb)
    | (go_at_call 16; (with_reducible refine (num_c _ _).mono ?_); rintro e w' ⟨rfl, rfl⟩)
    | (go_at_call 19; (with_reducible refine (same_leaf X.out LX.out).mono ?_); rintro e w7 ⟨rfl, hb⟩; replace B := Aside0.mk (below_step B.out hb); clear hb))
    go_ret
    exact ⟨rfl, B.out⟩
end Go.Proofs.Ytbekfmeaeaghpaa.EInstr
