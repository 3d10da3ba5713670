/-
  InstrOps: the walks, first half.
-/
import Derived.Test.YtbekfmeaeaghpaaELawOps0
namespace Go.Proofs.Ytbekfmeaeaghpaa.EInstr
open Go Go.RowKit Go.Proofs.Ytbekfmeaeaghpaa.F Go.Proofs.YtbekfmeaeaghpaaW.Hand Go.Proofs.YtbekfmeaeaghpaaW.PrintWords Go.Proofs.YtbekfmeaeaghpaaW.PrintLast Go.Proofs.YtbekfmeaeaghpaaW.PrintMore
open Go.Proofs.YtbekfmeaeaghpaaW.Byt
set_option linter.unusedVariables false
set_option linter.unusedSimpArgs false
set_option maxHeartbeats 16000000 in
set_option maxRecDepth 100000 in
theorem ops_0 (W : World) {z o : Int} (h : (0 ≤ o ∧ o ≤ 0) ∨ (1 ≤ o ∧ o ≤ 1) ∨ (15 ≤ o ∧ o ≤ 15) ∨ (26 ≤ o ∧ o ≤ 26) ∨ (27 ≤ o ∧ o ≤ 27) ∨ (69 ≤ o ∧ o ≤ 191)) (hz : Go.bits .and .i64 z 255 = o) : Calls Try.prog 7 #[.int .i64 z] W fun e w' => e = .returned (.bool true) ∧ Below W.heap.size W w' := by
  have B := Aside0.mk (Below.refl W.heap.size W)
  have u8 : IntKind.u8.wrap o = o := u8_id (by omega) (by omega)
  have MA := Aside0.mk (omay_0 h)
  have F : ((o == 0) = true ∧ (o == 1) = false ∧ (o == 15) = false ∧ (o == 26) = false ∧ (o == 27) = false ∧ (o == 12) = false ∧ (o == 13) = false ∧ (o == 16) = false ∧ (o == 14) = false ∧ (o == 17) = false ∧ (o == 63) = false ∧ (o == 64) = false ∧ (o == 65) = false ∧ (o == 66) = false ∧ (o == 67) = false ∧ (o == 68) = false ∧ (o == 11) = false ∧ decide (69 ≤ o) = false ∧ decide (2 ≤ o) = false ∧ decide (32 ≤ o) = false ∧ decide (40 ≤ o) = false ∧ decide (o ≤ 191) = true ∧ decide (o ≤ 4) = true ∧ decide (o ≤ 36) = true ∧ decide (o ≤ 62) = true) ∨ ((o == 0) = false ∧ (o == 1) = true ∧ (o == 15) = false ∧ (o == 26) = false ∧ (o == 27) = false ∧ (o == 12) = false ∧ (o == 13) = false ∧ (o == 16) = false ∧ (o == 14) = false ∧ (o == 17) = false ∧ (o == 63) = false ∧ (o == 64) = false ∧ (o == 65) = false ∧ (o == 66) = false ∧ (o == 67) = false ∧ (o == 68) = false ∧ (o == 11) = false ∧ decide (69 ≤ o) = false ∧ decide (2 ≤ o) = false ∧ decide (32 ≤ o) = false ∧ decide (40 ≤ o) = false ∧ decide (o ≤ 191) = true ∧ decide (o ≤ 4) = true ∧ decide (o ≤ 36) = true ∧ decide (o ≤ 62) = true) ∨ ((o == 0) = false ∧ (o == 1) = false ∧ (o == 15) = true ∧ (o == 26) = false ∧ (o == 27) = false ∧ (o == 12) = false ∧ (o == 13) = false ∧ (o == 16) = false ∧ (o == 14) = false ∧ (o == 17) = false ∧ (o == 63) = false ∧ (o == 64) = false ∧ (o == 65) = false ∧ (o == 66) = false ∧ (o == 67) = false ∧ (o == 68) = false ∧ (o == 11) = false ∧ decide (69 ≤ o) = false ∧ decide (2 ≤ o) = true ∧ decide (32 ≤ o) = false ∧ decide (40 ≤ o) = false ∧ decide (o ≤ 191) = true ∧ decide (o ≤ 4) = false ∧ decide (o ≤ 36) = true ∧ decide (o ≤ 62) = true) ∨ ((o == 0) = false ∧ (o == 1) = false ∧ (o == 15) = false ∧ (o == 26) = true ∧ (o == 27) = false ∧ (o == 12) = false ∧ (o == 13) = false ∧ (o == 16) = false ∧ (o == 14) = false ∧ (o == 17) = false ∧ (o == 63) = false ∧ (o == 64) = false ∧ (o == 65) = false ∧ (o == 66) = false ∧ (o == 67) = false ∧ (o == 68) = false ∧ (o == 11) = false ∧ decide (69 ≤ o) = false ∧ decide (2 ≤ o) = true ∧ decide (32 ≤ o) = false ∧ decide (40 ≤ o) = false ∧ decide (o ≤ 191) = true ∧ decide (o ≤ 4) = false ∧ decide (o ≤ 36) = true ∧ decide (o ≤ 62) = true) ∨ ((o == 0) = false ∧ (o == 1) = false ∧ (o == 15) = false ∧ (o == 26) = false ∧ (o == 27) = true ∧ (o == 12) = false ∧ (o == 13) = false ∧ (o == 16) = false ∧ (o == 14) = false ∧ (o == 17) = false ∧ (o == 63) = false ∧ (o == 64) = false ∧ (o == 65) = false ∧ (o == 66) = false ∧ (o == 67) = false ∧ (o == 68) = false ∧ (o == 11) = false ∧ decide (69 ≤ o) = false ∧ decide (2 ≤ o) = true ∧ decide (32 ≤ o) = false ∧ decide (40 ≤ o) = false ∧ decide (o ≤ 191) = true ∧ decide (o ≤ 4) = false ∧ decide (o ≤ 36) = true ∧ decide (o ≤ 62) = true) ∨ ((o == 0) = false ∧ (o == 1) = false ∧ (o == 15) = false ∧ (o == 26) = false ∧ (o == 27) = false ∧ (o == 12) = false ∧ (o == 13) = false ∧ (o == 16) = false ∧ (o == 14) = false ∧ (o == 17) = false ∧ (o == 63) = false ∧ (o == 64) = false ∧ (o == 65) = false ∧ (o == 66) = false ∧ (o == 67) = false ∧ (o == 68) = false ∧ (o == 11) = false ∧ decide (69 ≤ o) = true ∧ decide (2 ≤ o) = true ∧ decide (32 ≤ o) = true ∧ decide (40 ≤ o) = true ∧ decide (o ≤ 191) = true ∧ decide (o ≤ 4) = false ∧ decide (o ≤ 36) = false ∧ decide (o ≤ 62) = false) := by
    rcases h with h | h | h | h | h | h
    · exact .inl (by simp only [beq_iff_eq, beq_eq_false_iff_ne, decide_eq_true_eq, decide_eq_false_iff_not]; omega)
    · exact .inr (.inl (by simp only [beq_iff_eq, beq_eq_false_iff_ne, decide_eq_true_eq, decide_eq_false_iff_not]; omega))
    · exact .inr (.inr (.inl (by simp only [beq_iff_eq, beq_eq_false_iff_ne, decide_eq_true_eq, decide_eq_false_iff_not]; omega)))
    · exact .inr (.inr (.inr (.inl (by simp only [beq_iff_eq, beq_eq_false_iff_ne, decide_eq_true_eq, decide_eq_false_iff_not]; omega))))
    · exact .inr (.inr (.inr (.inr (.inl (by simp only [beq_iff_eq, beq_eq_false_iff_ne, decide_eq_true_eq, decide_eq_false_iff_not]; omega)))))
    · exact .inr (.inr (.inr (.inr (.inr ((by simp only [beq_iff_eq, beq_eq_false_iff_ne, decide_eq_true_eq, decide_eq_false_iff_not]; omega))))))
  obtain ⟨s, hs⟩ : ∃ s, strOfNums [o] = s := ⟨_, rfl⟩
  have PS := Aside0.mk (show putS [(⟨o, 0, 0, 0, 0, [], [], []⟩ : S44)] = s ++ ⟨#[11]⟩ by rw [oput_0 h, ← hs]; exact (str_app _ [11]).symm)
  have hS1 : s.size = 1 := by rw [← hs, LebBacks.size_str]; rfl
  have hS2 : ¬ s = ByteArray.empty := fun e => by rw [e] at hS1; cases hS1
  have hS4 : s.toList.isEmpty = false := by rw [← decide_eq_emptyBytes]; exact decide_eq_false hS2
  have WF := Aside0.mk (show wf64 [(⟨o, 0, 0, 0, 0, [], [], []⟩ : S44)] by simp [wf64_cons, wf64_nil])
  have hS3 : (s ++ ⟨#[11]⟩).size = 2 := by rw [ByteArray.size_append, hS1]; rfl
  have GM := Aside0.mk (show pGet (s ++ ⟨#[11]⟩) 0 = .ok ([(⟨o, 0, 0, 0, 0, [], [], []⟩ : S44)], 2) by have := back_all WF.out MA.out; rw [PS.out, hS3] at this; exact this)
  have SZ := Aside0.mk (show (s ++ ⟨#[11]⟩).size ≤ 1152921504606846976 by omega)
  clear h
  rcases F with ⟨q0, q1, q2, q3, q4, q5, q6, q7, q8, q9, q10, q11, q12, q13, q14, q15, q16, q17, q18, q19, q20, q21, q22, q23, q24⟩ | ⟨q0, q1, q2, q3, q4, q5, q6, q7, q8, q9, q10, q11, q12, q13, q14, q15, q16, q17, q18, q19, q20, q21, q22, q23, q24⟩ | ⟨q0, q1, q2, q3, q4, q5, q6, q7, q8, q9, q10, q11, q12, q13, q14, q15, q16, q17, q18, q19, q20, q21, q22, q23, q24⟩ | ⟨q0, q1, q2, q3, q4, q5, q6, q7, q8, q9, q10, q11, q12, q13, q14, q15, q16, q17, q18, q19, q20, q21, q22, q23, q24⟩ | ⟨q0, q1, q2, q3, q4, q5, q6, q7, q8, q9, q10, q11, q12, q13, q14, q15, q16, q17, q18, q19, q20, q21, q22, q23, q24⟩ | ⟨q0, q1, q2, q3, q4, q5, q6, q7, q8, q9, q10, q11, q12, q13, q14, q15, q16, q17, q18, q19, q20, q21, q22, q23, q24⟩
  all_goals
    go_enter Try.func7, Try.ntmps7
    go_wp2_with (first
    | (go_at_call 20; (with_reducible refine (awake14_c _).mono ?_); rintro e w0 ⟨rfl, hb⟩; replace B := Aside0.mk (below_step B.out hb); clear hb)
    | ((with_reducible refine gate_dst (N := 4) rfl ?_); refine box_event ?hg (N := 4) ?hd (cs := #[.int .i64 0, .int .i64 0, .int .i64 0, .int .i64 0, .int .i64 0, .slice none 0 0, .slice none 0 0, .slice none 0 0]) (t := 44) ?hr ?_; (case hd => rfl); (case hg => rfl); (case hr => first | (go_simp; done) | (go_simp; rfl)); intro gi hggi w1 hA hb; have GE := Aside0.mk (show W.heap.size ≤ gi by have := B.out.size; omega); replace B := Aside0.mk (below_step B.out hb); have K := Aside0.mk hA; clear hggi hA hb)
    | ((with_reducible refine gate_store (p := 4) rfl ?_); refine storeRow_event (g := gi) rfl rfl rfl (cs := #[.int .i64 o, .int .i64 0, .int .i64 0, .int .i64 0, .int .i64 0, .slice none 0 0, .slice none 0 0, .slice none 0 0]) rfl rfl K.out (by kernel_rfl) rfl (by simp [Value.oneCell']) ?_; intro w2 hA hb ho hs; replace B := Aside0.mk (hb _ _ GE.out B.out); replace K := Aside0.mk hA; clear hA hb ho hs)
    | ((with_reducible refine gate_dst (N := 49) rfl ?_); refine lit_event ?hg (N := 49) ?hd (cs := #[.int .u8 o]) (t := 5) (n := 1) ?hr ?_; (case hd => rfl); (case hg => rfl); (case hr => first | (go_simp; done) | (go_simp; rfl)); intro gq hggq w3 hA hb;  replace B := Aside0.mk (below_step B.out hb); replace K := Aside0.mk (blk_below K.out hb); obtain ⟨y0, y1, y2, y3, y4, y5, y6, y7⟩ := ys8 K.out; have Q := Aside0.mk hA; clear hggq hA hb)
    | ((with_reducible refine gate_dst (N := 50) rfl ?_); refine string_event (g := gq) (n := 1) (c := 1) (ns := [o]) rfl rfl rfl rfl Try.underlying45 Try.underlying5 Try.underlying9 (row1 Q.out) ?_)
    | ((with_reducible refine gate_dst (N := 142) rfl ?_); refine lit_event ?hg (N := 142) ?hd (cs := #[.int .i64 o, .int .i64 0, .int .i64 0, .int .i64 0, .int .i64 0, .slice none 0 0, .slice none 0 0, .slice none 0 0]) (t := 44) (n := 1) ?hr ?_; (case hd => rfl); (case hg => rfl); (case hr => first | (go_simp; done) | (go_simp; rfl)); intro gm hggm w4 hA hb;  replace B := Aside0.mk (below_step B.out hb); replace K := Aside0.mk (blk_below K.out hb); clear y0 y1 y2 y3 y4 y5 y6 y7; have P := Aside0.mk (show k44.C w4 (some ⟨gm, 0, none⟩) 1 [⟨o, 0, 0, 0, 0, [], [], []⟩] from c_leaf hA); clear hggm hA hb)
    | (go_at_call 14; (with_reducible refine (put_ok P.out rfl (Nat.le_refl _) WF.out MA.out PS.out).mono ?_); rintro e w5 ⟨rfl, hb⟩; replace P := Aside0.mk (Kd.C_below P.out hb); replace B := Aside0.mk (below_step B.out hb); replace K := Aside0.mk (blk_below K.out hb); clear hb)
    | (go_at_call 21; (with_reducible refine (get_ok (n := 1) GM.out rfl SZ.out _).mono ?_); rintro e w6 ⟨AX, cX, rfl, hC, hc, hb⟩; replace P := Aside0.mk (Kd.C_below P.out hb); replace B := Aside0.mk (below_step B.out hb); replace K := Aside0.mk (blk_below K.out hb); obtain ⟨y0, y1, y2, y3, y4, y5, y6, y7⟩ := ys8 K.out; have X := Aside0.mk hC; have LX := Aside0.mk hc; clear hC hc hb)
    | (go_at_call 16; (with_reducible refine (num_c _ _).mono ?_); rintro e w' ⟨rfl, rfl⟩)
    | (go_at_call 19; (with_reducible refine (same_leaf X.out LX.out).mono ?_); rintro e w7 ⟨rfl, hb⟩; replace B := Aside0.mk (below_step B.out hb); clear hb))
    go_ret
    exact ⟨rfl, B.out⟩
set_option maxHeartbeats 16000000 in
set_option maxRecDepth 100000 in
theorem ops_1 (W : World) {z o : Int} (h : 2 ≤ o ∧ o ≤ 4) (hz : Go.bits .and .i64 z 255 = o) : Calls Try.prog 7 #[.int .i64 z] W fun e w' => e = .returned (.bool true) ∧ Below W.heap.size W w' := by
  have B := Aside0.mk (Below.refl W.heap.size W)
  have u8 : IntKind.u8.wrap o = o := u8_id (by omega) (by omega)
  have MA := Aside0.mk (omay_1 h)
  have F : (o == 0) = false ∧ (o == 1) = false ∧ (o == 15) = false ∧ (o == 26) = false ∧ (o == 27) = false ∧ (o == 12) = false ∧ (o == 13) = false ∧ (o == 16) = false ∧ (o == 14) = false ∧ (o == 17) = false ∧ (o == 63) = false ∧ (o == 64) = false ∧ (o == 65) = false ∧ (o == 66) = false ∧ (o == 67) = false ∧ (o == 68) = false ∧ (o == 11) = false ∧ decide (69 ≤ o) = false ∧ decide (2 ≤ o) = true ∧ decide (32 ≤ o) = false ∧ decide (40 ≤ o) = false ∧ decide (o ≤ 191) = true ∧ decide (o ≤ 4) = true ∧ decide (o ≤ 36) = true ∧ decide (o ≤ 62) = true := by
    simp only [beq_iff_eq, beq_eq_false_iff_ne, decide_eq_true_eq, decide_eq_false_iff_not]
    omega
  obtain ⟨s, hs⟩ : ∃ s, strOfNums [o, 64, 11] = s := ⟨_, rfl⟩
  have PS := Aside0.mk (show putS [(⟨o, 0, 0, 0, 64, [], [], []⟩ : S44)] = s ++ ⟨#[11]⟩ by rw [oput_1 h, ← hs]; exact (str_app _ [11]).symm)
  have hS1 : s.size = 3 := by rw [← hs, LebBacks.size_str]; rfl
  have hS2 : ¬ s = ByteArray.empty := fun e => by rw [e] at hS1; cases hS1
  have hS4 : s.toList.isEmpty = false := by rw [← decide_eq_emptyBytes]; exact decide_eq_false hS2
  have WF := Aside0.mk (show wf64 [(⟨o, 0, 0, 0, 64, [], [], []⟩ : S44)] by simp [wf64_cons, wf64_nil])
  have hS3 : (s ++ ⟨#[11]⟩).size = 4 := by rw [ByteArray.size_append, hS1]; rfl
  have GM := Aside0.mk (show pGet (s ++ ⟨#[11]⟩) 0 = .ok ([(⟨o, 0, 0, 0, 64, [], [], []⟩ : S44)], 4) by have := back_all WF.out MA.out; rw [PS.out, hS3] at this; exact this)
  have SZ := Aside0.mk (show (s ++ ⟨#[11]⟩).size ≤ 1152921504606846976 by omega)
  clear h
  rcases F with ⟨q0, q1, q2, q3, q4, q5, q6, q7, q8, q9, q10, q11, q12, q13, q14, q15, q16, q17, q18, q19, q20, q21, q22, q23, q24⟩
  all_goals
    go_enter Try.func7, Try.ntmps7
    go_wp2_with (first
    | (go_at_call 20; (with_reducible refine (awake14_c _).mono ?_); rintro e w0 ⟨rfl, hb⟩; replace B := Aside0.mk (below_step B.out hb); clear hb)
    | ((with_reducible refine gate_dst (N := 4) rfl ?_); refine box_event ?hg (N := 4) ?hd (cs := #[.int .i64 0, .int .i64 0, .int .i64 0, .int .i64 0, .int .i64 0, .slice none 0 0, .slice none 0 0, .slice none 0 0]) (t := 44) ?hr ?_; (case hd => rfl); (case hg => rfl); (case hr => first | (go_simp; done) | (go_simp; rfl)); intro gi hggi w1 hA hb; have GE := Aside0.mk (show W.heap.size ≤ gi by have := B.out.size; omega); replace B := Aside0.mk (below_step B.out hb); have K := Aside0.mk hA; clear hggi hA hb)
    | ((with_reducible refine gate_store (p := 4) rfl ?_); refine storeRow_event (g := gi) rfl rfl rfl (cs := #[.int .i64 o, .int .i64 0, .int .i64 0, .int .i64 0, .int .i64 0, .slice none 0 0, .slice none 0 0, .slice none 0 0]) rfl rfl K.out (by kernel_rfl) rfl (by simp [Value.oneCell']) ?_; intro w2 hA hb ho hs; replace B := Aside0.mk (hb _ _ GE.out B.out); replace K := Aside0.mk hA; clear hA hb ho hs)
    | ((with_reducible refine gate_store (p := 58) rfl ?_); refine storeCell_event (g := gi) (j := 4) (x := .int .i64 64) rfl rfl rfl rfl rfl K.out (by simp) (by kernel_rfl) rfl ?_; intro w3 hA hb ho hs; replace B := Aside0.mk (hb _ _ GE.out B.out); replace K : Aside0 (w3.heap[gi]? = some (.cells #[.int .i64 o, .int .i64 0, .int .i64 0, .int .i64 0, .int .i64 64, .slice none 0 0, .slice none 0 0, .slice none 0 0] 44 (0, 0))) := ⟨hA⟩;    clear hA hb ho hs)
    | ((with_reducible refine gate_dst (N := 61) rfl ?_); refine lit_event ?hg (N := 61) ?hd (cs := #[.int .u8 o, .int .u8 64, .int .u8 11]) (t := 5) (n := 3) ?hr ?_; (case hd => rfl); (case hg => rfl); (case hr => first | (go_simp; done) | (go_simp; rfl)); intro gq hggq w4 hA hb;  replace B := Aside0.mk (below_step B.out hb); replace K := Aside0.mk (blk_below K.out hb); obtain ⟨y0, y1, y2, y3, y4, y5, y6, y7⟩ := ys8 K.out; have Q := Aside0.mk hA; clear hggq hA hb)
    | ((with_reducible refine gate_dst (N := 62) rfl ?_); refine string_event (g := gq) (n := 3) (c := 3) (ns := [o, 64, 11]) rfl rfl rfl rfl Try.underlying45 Try.underlying5 Try.underlying9 (row3 Q.out) ?_)
    | ((with_reducible refine gate_dst (N := 142) rfl ?_); refine lit_event ?hg (N := 142) ?hd (cs := #[.int .i64 o, .int .i64 0, .int .i64 0, .int .i64 0, .int .i64 64, .slice none 0 0, .slice none 0 0, .slice none 0 0]) (t := 44) (n := 1) ?hr ?_; (case hd => rfl); (case hg => rfl); (case hr => first | (go_simp; done) | (go_simp; rfl)); intro gm hggm w5 hA hb;  replace B := Aside0.mk (below_step B.out hb); replace K := Aside0.mk (blk_below K.out hb); clear y0 y1 y2 y3 y4 y5 y6 y7; have P := Aside0.mk (show k44.C w5 (some ⟨gm, 0, none⟩) 1 [⟨o, 0, 0, 0, 64, [], [], []⟩] from c_block (body := []) (els := []) (c6 := 0) (c7 := 0) hA (Nat.le_refl _) (c_nil _ _) (Nat.le_refl _) (c_nil _ _)); clear hggm hA hb)
    | (go_at_call 14; (with_reducible refine (put_ok P.out rfl (Nat.le_refl _) WF.out MA.out PS.out).mono ?_); rintro e w6 ⟨rfl, hb⟩; replace P := Aside0.mk (Kd.C_below P.out hb); replace B := Aside0.mk (below_step B.out hb); replace K := Aside0.mk (blk_below K.out hb); clear hb)
    | (go_at_call 21; (with_reducible refine (get_ok (n := 1) GM.out rfl SZ.out _).mono ?_); rintro e w7 ⟨AX, cX, rfl, hC, hc, hb⟩; replace P := Aside0.mk (Kd.C_below P.out hb); replace B := Aside0.mk (below_step B.out hb); replace K := Aside0.mk (blk_below K.out hb); obtain ⟨y0, y1, y2, y3, y4, y5, y6, y7⟩ := ys8 K.out; have X := Aside0.mk hC; have LX := Aside0.mk hc; clear hC hc hb)
    | (go_at_call 16; (with_reducible refine (num_c _ _).mono ?_); rintro e w' ⟨rfl, rfl⟩)
    | (go_at_call 19; (with_reducible refine (same_leaf X.out LX.out).mono ?_); rintro e w8 ⟨rfl, hb⟩; replace B := Aside0.mk (below_step B.out hb); clear hb))
    go_ret
    exact ⟨rfl, B.out⟩
end Go.Proofs.Ytbekfmeaeaghpaa.EInstr
