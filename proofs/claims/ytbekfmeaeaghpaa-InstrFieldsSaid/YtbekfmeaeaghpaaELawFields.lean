/-
  InstrFields: the walk.
-/
import Derived.Test.YtbekfmeaeaghpaaD14G
namespace Go.Proofs.Ytbekfmeaeaghpaa.EInstr
open Go Go.RowKit Go.Proofs.Ytbekfmeaeaghpaa.F Go.Proofs.YtbekfmeaeaghpaaW.Hand Go.Proofs.YtbekfmeaeaghpaaW.PrintWords Go.Proofs.YtbekfmeaeaghpaaW.PrintLast Go.Proofs.YtbekfmeaeaghpaaW.PrintMore
open Go.Proofs.YtbekfmeaeaghpaaW.Byt
set_option linter.unusedVariables false
set_option linter.unusedSimpArgs false

def isOp (o : Int) : Prop := o = 0 ∨ o = 1 ∨ o = 15 ∨ o = 26 ∨ o = 27 ∨ o = 63 ∨ o = 64 ∨ o = 69 ∨ o = 106 ∨ o = 191
theorem op_at (x : Int) : ∃ o, isOp o ∧ (#[.int .i64 0, .int .i64 1, .int .i64 15, .int .i64 26, .int .i64 27, .int .i64 63, .int .i64 64, .int .i64 69, .int .i64 106, .int .i64 191] : Array Value)[((IntKind.u64.wrap x).tmod 10).toNat]? = some (.int .i64 o) := by
  have h0 : 0 ≤ IntKind.u64.wrap x := by rw [LebMath.u64_eq]; omega
  have h1 : (IntKind.u64.wrap x).tmod 10 = (IntKind.u64.wrap x) % 10 := Int.tmod_eq_emod_of_nonneg h0
  rw [h1]
  have h2 : 0 ≤ (IntKind.u64.wrap x) % 10 ∧ (IntKind.u64.wrap x) % 10 < 10 := by omega
  generalize (IntKind.u64.wrap x) % 10 = i at h2
  obtain ⟨n, rfl⟩ : ∃ n : Nat, i = n := ⟨i.toNat, by omega⟩
  obtain ⟨h3, h4⟩ := h2
  have h5 : n < 10 := by omega
  rw [Int.toNat_natCast]
  match n, h5 with
  | 0, _ => exact ⟨0, by simp [isOp], rfl⟩
  | 1, _ => exact ⟨1, by simp [isOp], rfl⟩
  | 2, _ => exact ⟨15, by simp [isOp], rfl⟩
  | 3, _ => exact ⟨26, by simp [isOp], rfl⟩
  | 4, _ => exact ⟨27, by simp [isOp], rfl⟩
  | 5, _ => exact ⟨63, by simp [isOp], rfl⟩
  | 6, _ => exact ⟨64, by simp [isOp], rfl⟩
  | 7, _ => exact ⟨69, by simp [isOp], rfl⟩
  | 8, _ => exact ⟨106, by simp [isOp], rfl⟩
  | 9, _ => exact ⟨191, by simp [isOp], rfl⟩
theorem op_rng (x : Int) : 0 ≤ (IntKind.u64.wrap x).tmod 10 ∧ (IntKind.u64.wrap x).tmod 10 < 10 := by
  have h0 : 0 ≤ IntKind.u64.wrap x := by rw [LebMath.u64_eq]; omega
  rw [Int.tmod_eq_emod_of_nonneg h0]
  omega
theorem fld_rng (y : Int) : 0 ≤ (IntKind.u64.wrap y).tmod 7 ∧ (IntKind.u64.wrap y).tmod 7 < 7 := by
  have h0 : 0 ≤ IntKind.u64.wrap y := by rw [LebMath.u64_eq]; omega
  rw [Int.tmod_eq_emod_of_nonneg h0]
  omega
theorem may_ok1 (x : S44) (h6 : x.f6 = []) (h7 : x.f7 = []) (h2 : ofF x.f0 ≠ 2) (hm : mayB x = true) : mayE [x] = 0 := by
  unfold mayE
  rw [pre_one, h6, h7, pre_nil]
  simp only [List.append_nil, scanE_cons]
  have : stepE (0 + 1) (0, x) = 0 := by
    unfold stepE
    rw [if_neg (fun h => h2 h.1), if_neg]
    rintro (h | h)
    · omega
    · rw [hm] at h
      cases h
  rw [if_pos this]
  rfl
theorem may_er1 (x : S44) (xs : List S44) (h2 : ¬ (ofF x.f0 = 2 ∧ 32 ≤ 0)) (hm : mayB x = false) : mayE (x :: xs) = 1400 := by
  unfold mayE
  rw [pre_cons, scanE_cons]
  have : stepE (0 + 1) (0, x) = 1400 := by
    unfold stepE
    rw [if_neg (fun h => by omega), if_pos (.inr hm)]
  rw [if_neg (by rw [this]; decide), this]
theorem fields_may {o : Int} (h : isOp o) : ofF o ≠ 2 ∧ mayB ⟨o, 0, 0, 0, 0, [], [], []⟩ = true ∧ mayB ⟨o, 1, 0, 0, 0, [], [], []⟩ = false ∧ mayB ⟨o, 0, 1, 0, 0, [], [], []⟩ = false ∧ mayB ⟨o, 0, 0, 1, 0, [], [], []⟩ = false ∧ mayB ⟨o, 0, 0, 0, 64, [], [], []⟩ = false ∧ mayB ⟨o, 0, 0, 0, 0, [0], [], []⟩ = false ∧ mayB ⟨o, 0, 0, 0, 0, [], [⟨1, 0, 0, 0, 0, [], [], []⟩], []⟩ = false ∧ mayB ⟨o, 0, 0, 0, 0, [], [], [⟨1, 0, 0, 0, 0, [], [], []⟩]⟩ = false := by
  rcases h with rfl | rfl | rfl | rfl | rfl | rfl | rfl | rfl | rfl | rfl <;> decide +kernel
theorem wf_leaf (op a b ty : Int) : wf64 [⟨op, a, b, 0, ty, [], [], []⟩] := by simp [wf64_cons, wf64_nil]
theorem c_lab {W : World} {g gl : Nat} {op : Int} {l : List Int} (h : W.heap[g]? = some (.cells #[.int .i64 op, .int .i64 0, .int .i64 0, .int .i64 0, .int .i64 0, .slice (some ⟨gl, 0, none⟩) l.length l.length, .slice none 0 0, .slice none 0 0] 44 (0, 0))) (hl : (Kd.int .i64).C W (some ⟨gl, 0, none⟩) l.length l) : k44.C W (some ⟨g, 0, none⟩) 1 [⟨op, 0, 0, 0, 0, l, [], []⟩] :=
  c_reps (d := k44) (xs := [(⟨op, 0, 0, 0, 0, l, [], []⟩ : S44)]) (inner := [.int .i64 op, .int .i64 0, .int .i64 0, .int .i64 0, .int .i64 0, .slice (some ⟨gl, 0, none⟩) l.length l.length, .slice none 0 0, .slice none 0 0]) h (reps_one rfl (k44_mk W ⟨op, 0, 0, 0, 0, l, [], []⟩ (Nat.le_refl _) hl (Nat.le_refl _) (c_nil _ W) (Nat.le_refl _) (c_nil _ W))) (by simp)
theorem c_int1 {W : World} {g : Nat} {x : Int} (h : W.heap[g]? = some (.cells #[.int .i64 x] 3 (0, 0))) : (Kd.int .i64).C W (some ⟨g, 0, none⟩) 1 [x] :=
  c_reps (d := Kd.int .i64) (xs := [x]) (inner := [.int .i64 x]) h (reps_one rfl rfl) (by simp)
set_option maxHeartbeats 4000000 in
set_option maxRecDepth 100000 in
theorem fields_0 (W : World) (x y o : Int) (ho : isOp o) (hx : (#[.int .i64 0, .int .i64 1, .int .i64 15, .int .i64 26, .int .i64 27, .int .i64 63, .int .i64 64, .int .i64 69, .int .i64 106, .int .i64 191] : Array Value)[((IntKind.u64.wrap x).tmod 10).toNat]? = some (.int .i64 o)) (hy : (IntKind.u64.wrap y).tmod 7 = 0) : Calls Try.prog 8 #[.int .i64 x, .int .i64 y] W fun e w' => e = .returned (.bool true) ∧ Below W.heap.size W w' := by
  have B := Aside0.mk (Below.refl W.heap.size W)
  have fm := fields_may ho
  have M0 := Aside0.mk (may_ok1 ⟨o, 0, 0, 0, 0, [], [], []⟩ rfl rfl fm.1 fm.2.1)
  have M1 := Aside0.mk (may_er1 ⟨o, 1, 0, 0, 0, [], [], []⟩ [] (fun h => fm.1 h.1) fm.2.2.1)
  have OA := Aside0.mk hx
  obtain ⟨p0, p1⟩ := op_rng x
  clear ho fm hx
  go_enter Try.func8, Try.ntmps8
  go_wp2_with (first
    | (go_at_call 20; (with_reducible refine (awake14_c _).mono ?_); rintro e w1 ⟨rfl, hb⟩; replace B := Aside0.mk (below_step B.out hb); clear hb)
    | ((with_reducible refine gate_dst (N := 13) rfl ?_); refine lit_event ?hg (N := 13) ?hd (cs := #[.int .i64 0, .int .i64 1, .int .i64 15, .int .i64 26, .int .i64 27, .int .i64 63, .int .i64 64, .int .i64 69, .int .i64 106, .int .i64 191]) (t := 3) (n := 10) ?hr ?_; (case hd => rfl); (case hg => rfl); (case hr => first | (go_simp; done) | (go_simp; rfl)); intro gp hggp w2 hA hb; replace B := Aside0.mk (below_step B.out hb); have z : w2.cell? ⟨gp, ((IntKind.u64.wrap x).tmod 10).toNat, none⟩ = some (.int .i64 o) := (blk_cell hA _).trans OA.out; clear hggp hA hb)
    | ((with_reducible refine gate_dst (N := 6) rfl ?_); refine box_event ?hg (N := 6) ?hd (cs := #[.int .i64 0, .int .i64 0, .int .i64 0, .int .i64 0, .int .i64 0, .slice none 0 0, .slice none 0 0, .slice none 0 0]) (t := 44) ?hr ?_; (case hd => rfl); (case hg => rfl); (case hr => first | (go_simp; done) | (go_simp; rfl)); intro gi hggi w3 hA hb; have GE := Aside0.mk (show W.heap.size ≤ gi by have := B.out.size; omega); replace B := Aside0.mk (below_step B.out hb); have K := Aside0.mk hA; clear hggi hA hb z)
    | ((with_reducible refine gate_store (p := 6) rfl ?_); refine storeRow_event (g := gi) rfl rfl rfl (cs := #[.int .i64 o, .int .i64 0, .int .i64 0, .int .i64 0, .int .i64 0, .slice none 0 0, .slice none 0 0, .slice none 0 0]) rfl rfl K.out (by kernel_rfl) rfl (by simp [Value.oneCell']) ?_; intro w4 hA hb ho hs; replace B := Aside0.mk (hb _ _ GE.out B.out); have K1 := Aside0.mk hA; have y0 : w4.cell? ⟨gi, 0, none⟩ = some (.int .i64 o) := blk_cell K1.out 0; have y1 : w4.cell? ⟨gi, 1, none⟩ = some (.int .i64 0) := blk_cell K1.out 1; have y2 : w4.cell? ⟨gi, 2, none⟩ = some (.int .i64 0) := blk_cell K1.out 2; have y3 : w4.cell? ⟨gi, 3, none⟩ = some (.int .i64 0) := blk_cell K1.out 3; have y4 : w4.cell? ⟨gi, 4, none⟩ = some (.int .i64 0) := blk_cell K1.out 4; have y5 : w4.cell? ⟨gi, 5, none⟩ = some (.slice none 0 0) := blk_cell K1.out 5; have y6 : w4.cell? ⟨gi, 6, none⟩ = some (.slice none 0 0) := blk_cell K1.out 6; have y7 : w4.cell? ⟨gi, 7, none⟩ = some (.slice none 0 0) := blk_cell K1.out 7; clear hA hb ho hs K)
    | ((with_reducible refine gate_dst (N := 23) rfl ?_); refine lit_event ?hg (N := 23) ?hd (cs := #[.int .i64 o, .int .i64 0, .int .i64 0, .int .i64 0, .int .i64 0, .slice none 0 0, .slice none 0 0, .slice none 0 0]) (t := 44) (n := 1) ?hr ?_; (case hd => rfl); (case hg => rfl); (case hr => first | (go_simp; done) | (go_simp; rfl)); intro gl hggl w5 hA hb; replace B := Aside0.mk (below_step B.out hb); have K2 := Aside0.mk (blk_below K1.out hb); have P := Aside0.mk (c_leaf hA); clear y0; clear y1; clear y2; clear y3; clear y4; clear y5; clear y6; clear y7; clear hggl hA hb K1;)
    | (go_at_call 14; (with_reducible refine (put_ok P.out rfl (Nat.le_refl _) (wf_leaf _ _ _ _) M0.out rfl).mono ?_); rintro e w6 ⟨rfl, hb⟩; replace B := Aside0.mk (below_step B.out hb); have K3 := Aside0.mk (blk_below K2.out hb); clear hb P K2)
    | ((with_reducible refine gate_store (p := 35) rfl ?_); refine storeCell_event (g := gi) (j := 1) (x := .int .i64 1) rfl rfl rfl rfl rfl K3.out (by simp) (by kernel_rfl) rfl ?_; intro w7 hA hb ho hs; replace B := Aside0.mk (hb _ _ GE.out B.out); have K4 : Aside0 (w7.heap[gi]? = some (.cells #[.int .i64 o, .int .i64 1, .int .i64 0, .int .i64 0, .int .i64 0, .slice none 0 0, .slice none 0 0, .slice none 0 0] 44 (0, 0))) := ⟨hA⟩; have y0 : w7.cell? ⟨gi, 0, none⟩ = some (.int .i64 o) := blk_cell K4.out 0; have y1 : w7.cell? ⟨gi, 1, none⟩ = some (.int .i64 1) := blk_cell K4.out 1; have y2 : w7.cell? ⟨gi, 2, none⟩ = some (.int .i64 0) := blk_cell K4.out 2; have y3 : w7.cell? ⟨gi, 3, none⟩ = some (.int .i64 0) := blk_cell K4.out 3; have y4 : w7.cell? ⟨gi, 4, none⟩ = some (.int .i64 0) := blk_cell K4.out 4; have y5 : w7.cell? ⟨gi, 5, none⟩ = some (.slice none 0 0) := blk_cell K4.out 5; have y6 : w7.cell? ⟨gi, 6, none⟩ = some (.slice none 0 0) := blk_cell K4.out 6; have y7 : w7.cell? ⟨gi, 7, none⟩ = some (.slice none 0 0) := blk_cell K4.out 7; clear hA hb ho hs K3)
    | ((with_reducible refine gate_dst (N := 56) rfl ?_); refine lit_event ?hg (N := 56) ?hd (cs := #[.int .i64 o, .int .i64 1, .int .i64 0, .int .i64 0, .int .i64 0, .slice none 0 0, .slice none 0 0, .slice none 0 0]) (t := 44) (n := 1) ?hr ?_; (case hd => rfl); (case hg => rfl); (case hr => first | (go_simp; done) | (go_simp; rfl)); intro gm hggm w9 hA hb; replace B := Aside0.mk (below_step B.out hb); have P2 : Aside0 (k44.C w9 (some ⟨gm, 0, none⟩) 1 [⟨o, 1, 0, 0, 0, [], [], []⟩]) := ⟨c_leaf hA⟩; clear y0; clear y1; clear y2; clear y3; clear y4; clear y5; clear y6; clear y7; clear hggm hA hb K4)
    | (go_at_call 14; (with_reducible refine (put_er P2.out rfl (Nat.le_refl _) M1.out (by decide)).mono ?_); rintro e w10 ⟨rfl, hb⟩; replace B := Aside0.mk (below_step B.out hb); clear hb P2)
    | (go_at_call 16; (with_reducible refine (num_c _ _).mono ?_); rintro e w' ⟨rfl, rfl⟩))
  go_ret
  exact ⟨rfl, B.out⟩
set_option maxHeartbeats 4000000 in
set_option maxRecDepth 100000 in
theorem fields_1 (W : World) (x y o : Int) (ho : isOp o) (hx : (#[.int .i64 0, .int .i64 1, .int .i64 15, .int .i64 26, .int .i64 27, .int .i64 63, .int .i64 64, .int .i64 69, .int .i64 106, .int .i64 191] : Array Value)[((IntKind.u64.wrap x).tmod 10).toNat]? = some (.int .i64 o)) (hy : (IntKind.u64.wrap y).tmod 7 = 1) : Calls Try.prog 8 #[.int .i64 x, .int .i64 y] W fun e w' => e = .returned (.bool true) ∧ Below W.heap.size W w' := by
  have B := Aside0.mk (Below.refl W.heap.size W)
  have fm := fields_may ho
  have M0 := Aside0.mk (may_ok1 ⟨o, 0, 0, 0, 0, [], [], []⟩ rfl rfl fm.1 fm.2.1)
  have M1 := Aside0.mk (may_er1 ⟨o, 0, 1, 0, 0, [], [], []⟩ [] (fun h => fm.1 h.1) fm.2.2.2.1)
  have OA := Aside0.mk hx
  obtain ⟨p0, p1⟩ := op_rng x
  clear ho fm hx
  go_enter Try.func8, Try.ntmps8
  go_wp2_with (first
    | (go_at_call 20; (with_reducible refine (awake14_c _).mono ?_); rintro e w1 ⟨rfl, hb⟩; replace B := Aside0.mk (below_step B.out hb); clear hb)
    | ((with_reducible refine gate_dst (N := 13) rfl ?_); refine lit_event ?hg (N := 13) ?hd (cs := #[.int .i64 0, .int .i64 1, .int .i64 15, .int .i64 26, .int .i64 27, .int .i64 63, .int .i64 64, .int .i64 69, .int .i64 106, .int .i64 191]) (t := 3) (n := 10) ?hr ?_; (case hd => rfl); (case hg => rfl); (case hr => first | (go_simp; done) | (go_simp; rfl)); intro gp hggp w2 hA hb; replace B := Aside0.mk (below_step B.out hb); have z : w2.cell? ⟨gp, ((IntKind.u64.wrap x).tmod 10).toNat, none⟩ = some (.int .i64 o) := (blk_cell hA _).trans OA.out; clear hggp hA hb)
    | ((with_reducible refine gate_dst (N := 6) rfl ?_); refine box_event ?hg (N := 6) ?hd (cs := #[.int .i64 0, .int .i64 0, .int .i64 0, .int .i64 0, .int .i64 0, .slice none 0 0, .slice none 0 0, .slice none 0 0]) (t := 44) ?hr ?_; (case hd => rfl); (case hg => rfl); (case hr => first | (go_simp; done) | (go_simp; rfl)); intro gi hggi w3 hA hb; have GE := Aside0.mk (show W.heap.size ≤ gi by have := B.out.size; omega); replace B := Aside0.mk (below_step B.out hb); have K := Aside0.mk hA; clear hggi hA hb z)
    | ((with_reducible refine gate_store (p := 6) rfl ?_); refine storeRow_event (g := gi) rfl rfl rfl (cs := #[.int .i64 o, .int .i64 0, .int .i64 0, .int .i64 0, .int .i64 0, .slice none 0 0, .slice none 0 0, .slice none 0 0]) rfl rfl K.out (by kernel_rfl) rfl (by simp [Value.oneCell']) ?_; intro w4 hA hb ho hs; replace B := Aside0.mk (hb _ _ GE.out B.out); have K1 := Aside0.mk hA; have y0 : w4.cell? ⟨gi, 0, none⟩ = some (.int .i64 o) := blk_cell K1.out 0; have y1 : w4.cell? ⟨gi, 1, none⟩ = some (.int .i64 0) := blk_cell K1.out 1; have y2 : w4.cell? ⟨gi, 2, none⟩ = some (.int .i64 0) := blk_cell K1.out 2; have y3 : w4.cell? ⟨gi, 3, none⟩ = some (.int .i64 0) := blk_cell K1.out 3; have y4 : w4.cell? ⟨gi, 4, none⟩ = some (.int .i64 0) := blk_cell K1.out 4; have y5 : w4.cell? ⟨gi, 5, none⟩ = some (.slice none 0 0) := blk_cell K1.out 5; have y6 : w4.cell? ⟨gi, 6, none⟩ = some (.slice none 0 0) := blk_cell K1.out 6; have y7 : w4.cell? ⟨gi, 7, none⟩ = some (.slice none 0 0) := blk_cell K1.out 7; clear hA hb ho hs K)
    | ((with_reducible refine gate_dst (N := 23) rfl ?_); refine lit_event ?hg (N := 23) ?hd (cs := #[.int .i64 o, .int .i64 0, .int .i64 0, .int .i64 0, .int .i64 0, .slice none 0 0, .slice none 0 0, .slice none 0 0]) (t := 44) (n := 1) ?hr ?_; (case hd => rfl); (case hg => rfl); (case hr => first | (go_simp; done) | (go_simp; rfl)); intro gl hggl w5 hA hb; replace B := Aside0.mk (below_step B.out hb); have K2 := Aside0.mk (blk_below K1.out hb); have P := Aside0.mk (c_leaf hA); clear y0; clear y1; clear y2; clear y3; clear y4; clear y5; clear y6; clear y7; clear hggl hA hb K1;)
    | (go_at_call 14; (with_reducible refine (put_ok P.out rfl (Nat.le_refl _) (wf_leaf _ _ _ _) M0.out rfl).mono ?_); rintro e w6 ⟨rfl, hb⟩; replace B := Aside0.mk (below_step B.out hb); have K3 := Aside0.mk (blk_below K2.out hb); clear hb P K2)
    | ((with_reducible refine gate_store (p := 38) rfl ?_); refine storeCell_event (g := gi) (j := 2) (x := .int .i64 1) rfl rfl rfl rfl rfl K3.out (by simp) (by kernel_rfl) rfl ?_; intro w7 hA hb ho hs; replace B := Aside0.mk (hb _ _ GE.out B.out); have K4 : Aside0 (w7.heap[gi]? = some (.cells #[.int .i64 o, .int .i64 0, .int .i64 1, .int .i64 0, .int .i64 0, .slice none 0 0, .slice none 0 0, .slice none 0 0] 44 (0, 0))) := ⟨hA⟩; have y0 : w7.cell? ⟨gi, 0, none⟩ = some (.int .i64 o) := blk_cell K4.out 0; have y1 : w7.cell? ⟨gi, 1, none⟩ = some (.int .i64 0) := blk_cell K4.out 1; have y2 : w7.cell? ⟨gi, 2, none⟩ = some (.int .i64 1) := blk_cell K4.out 2; have y3 : w7.cell? ⟨gi, 3, none⟩ = some (.int .i64 0) := blk_cell K4.out 3; have y4 : w7.cell? ⟨gi, 4, none⟩ = some (.int .i64 0) := blk_cell K4.out 4; have y5 : w7.cell? ⟨gi, 5, none⟩ = some (.slice none 0 0) := blk_cell K4.out 5; have y6 : w7.cell? ⟨gi, 6, none⟩ = some (.slice none 0 0) := blk_cell K4.out 6; have y7 : w7.cell? ⟨gi, 7, none⟩ = some (.slice none 0 0) := blk_cell K4.out 7; clear hA hb ho hs K3)
    | ((with_reducible refine gate_dst (N := 56) rfl ?_); refine lit_event ?hg (N := 56) ?hd (cs := #[.int .i64 o, .int .i64 0, .int .i64 1, .int .i64 0, .int .i64 0, .slice none 0 0, .slice none 0 0, .slice none 0 0]) (t := 44) (n := 1) ?hr ?_; (case hd => rfl); (case hg => rfl); (case hr => first | (go_simp; done) | (go_simp; rfl)); intro gm hggm w9 hA hb; replace B := Aside0.mk (below_step B.out hb); have P2 : Aside0 (k44.C w9 (some ⟨gm, 0, none⟩) 1 [⟨o, 0, 1, 0, 0, [], [], []⟩]) := ⟨c_leaf hA⟩; clear y0; clear y1; clear y2; clear y3; clear y4; clear y5; clear y6; clear y7; clear hggm hA hb K4)
    | (go_at_call 14; (with_reducible refine (put_er P2.out rfl (Nat.le_refl _) M1.out (by decide)).mono ?_); rintro e w10 ⟨rfl, hb⟩; replace B := Aside0.mk (below_step B.out hb); clear hb P2)
    | (go_at_call 16; (with_reducible refine (num_c _ _).mono ?_); rintro e w' ⟨rfl, rfl⟩))
  go_ret
  exact ⟨rfl, B.out⟩
set_option maxHeartbeats 4000000 in
set_option maxRecDepth 100000 in
theorem fields_2 (W : World) (x y o : Int) (ho : isOp o) (hx : (#[.int .i64 0, .int .i64 1, .int .i64 15, .int .i64 26, .int .i64 27, .int .i64 63, .int .i64 64, .int .i64 69, .int .i64 106, .int .i64 191] : Array Value)[((IntKind.u64.wrap x).tmod 10).toNat]? = some (.int .i64 o)) (hy : (IntKind.u64.wrap y).tmod 7 = 2) : Calls Try.prog 8 #[.int .i64 x, .int .i64 y] W fun e w' => e = .returned (.bool true) ∧ Below W.heap.size W w' := by
  have B := Aside0.mk (Below.refl W.heap.size W)
  have fm := fields_may ho
  have M0 := Aside0.mk (may_ok1 ⟨o, 0, 0, 0, 0, [], [], []⟩ rfl rfl fm.1 fm.2.1)
  have M1 := Aside0.mk (may_er1 ⟨o, 0, 0, 1, 0, [], [], []⟩ [] (fun h => fm.1 h.1) fm.2.2.2.2.1)
  have OA := Aside0.mk hx
  obtain ⟨p0, p1⟩ := op_rng x
  clear ho fm hx
  go_enter Try.func8, Try.ntmps8
  go_wp2_with (first
    | (go_at_call 20; (with_reducible refine (awake14_c _).mono ?_); rintro e w1 ⟨rfl, hb⟩; replace B := Aside0.mk (below_step B.out hb); clear hb)
    | ((with_reducible refine gate_dst (N := 13) rfl ?_); refine lit_event ?hg (N := 13) ?hd (cs := #[.int .i64 0, .int .i64 1, .int .i64 15, .int .i64 26, .int .i64 27, .int .i64 63, .int .i64 64, .int .i64 69, .int .i64 106, .int .i64 191]) (t := 3) (n := 10) ?hr ?_; (case hd => rfl); (case hg => rfl); (case hr => first | (go_simp; done) | (go_simp; rfl)); intro gp hggp w2 hA hb; replace B := Aside0.mk (below_step B.out hb); have z : w2.cell? ⟨gp, ((IntKind.u64.wrap x).tmod 10).toNat, none⟩ = some (.int .i64 o) := (blk_cell hA _).trans OA.out; clear hggp hA hb)
    | ((with_reducible refine gate_dst (N := 6) rfl ?_); refine box_event ?hg (N := 6) ?hd (cs := #[.int .i64 0, .int .i64 0, .int .i64 0, .int .i64 0, .int .i64 0, .slice none 0 0, .slice none 0 0, .slice none 0 0]) (t := 44) ?hr ?_; (case hd => rfl); (case hg => rfl); (case hr => first | (go_simp; done) | (go_simp; rfl)); intro gi hggi w3 hA hb; have GE := Aside0.mk (show W.heap.size ≤ gi by have := B.out.size; omega); replace B := Aside0.mk (below_step B.out hb); have K := Aside0.mk hA; clear hggi hA hb z)
    | ((with_reducible refine gate_store (p := 6) rfl ?_); refine storeRow_event (g := gi) rfl rfl rfl (cs := #[.int .i64 o, .int .i64 0, .int .i64 0, .int .i64 0, .int .i64 0, .slice none 0 0, .slice none 0 0, .slice none 0 0]) rfl rfl K.out (by kernel_rfl) rfl (by simp [Value.oneCell']) ?_; intro w4 hA hb ho hs; replace B := Aside0.mk (hb _ _ GE.out B.out); have K1 := Aside0.mk hA; have y0 : w4.cell? ⟨gi, 0, none⟩ = some (.int .i64 o) := blk_cell K1.out 0; have y1 : w4.cell? ⟨gi, 1, none⟩ = some (.int .i64 0) := blk_cell K1.out 1; have y2 : w4.cell? ⟨gi, 2, none⟩ = some (.int .i64 0) := blk_cell K1.out 2; have y3 : w4.cell? ⟨gi, 3, none⟩ = some (.int .i64 0) := blk_cell K1.out 3; have y4 : w4.cell? ⟨gi, 4, none⟩ = some (.int .i64 0) := blk_cell K1.out 4; have y5 : w4.cell? ⟨gi, 5, none⟩ = some (.slice none 0 0) := blk_cell K1.out 5; have y6 : w4.cell? ⟨gi, 6, none⟩ = some (.slice none 0 0) := blk_cell K1.out 6; have y7 : w4.cell? ⟨gi, 7, none⟩ = some (.slice none 0 0) := blk_cell K1.out 7; clear hA hb ho hs K)
    | ((with_reducible refine gate_dst (N := 23) rfl ?_); refine lit_event ?hg (N := 23) ?hd (cs := #[.int .i64 o, .int .i64 0, .int .i64 0, .int .i64 0, .int .i64 0, .slice none 0 0, .slice none 0 0, .slice none 0 0]) (t := 44) (n := 1) ?hr ?_; (case hd => rfl); (case hg => rfl); (case hr => first | (go_simp; done) | (go_simp; rfl)); intro gl hggl w5 hA hb; replace B := Aside0.mk (below_step B.out hb); have K2 := Aside0.mk (blk_below K1.out hb); have P := Aside0.mk (c_leaf hA); clear y0; clear y1; clear y2; clear y3; clear y4; clear y5; clear y6; clear y7; clear hggl hA hb K1;)
    | (go_at_call 14; (with_reducible refine (put_ok P.out rfl (Nat.le_refl _) (wf_leaf _ _ _ _) M0.out rfl).mono ?_); rintro e w6 ⟨rfl, hb⟩; replace B := Aside0.mk (below_step B.out hb); have K3 := Aside0.mk (blk_below K2.out hb); clear hb P K2)
    | ((with_reducible refine gate_store (p := 41) rfl ?_); refine storeCell_event (g := gi) (j := 3) (x := .int .i64 1) rfl rfl rfl rfl rfl K3.out (by simp) (by kernel_rfl) rfl ?_; intro w7 hA hb ho hs; replace B := Aside0.mk (hb _ _ GE.out B.out); have K4 : Aside0 (w7.heap[gi]? = some (.cells #[.int .i64 o, .int .i64 0, .int .i64 0, .int .i64 1, .int .i64 0, .slice none 0 0, .slice none 0 0, .slice none 0 0] 44 (0, 0))) := ⟨hA⟩; have y0 : w7.cell? ⟨gi, 0, none⟩ = some (.int .i64 o) := blk_cell K4.out 0; have y1 : w7.cell? ⟨gi, 1, none⟩ = some (.int .i64 0) := blk_cell K4.out 1; have y2 : w7.cell? ⟨gi, 2, none⟩ = some (.int .i64 0) := blk_cell K4.out 2; have y3 : w7.cell? ⟨gi, 3, none⟩ = some (.int .i64 1) := blk_cell K4.out 3; have y4 : w7.cell? ⟨gi, 4, none⟩ = some (.int .i64 0) := blk_cell K4.out 4; have y5 : w7.cell? ⟨gi, 5, none⟩ = some (.slice none 0 0) := blk_cell K4.out 5; have y6 : w7.cell? ⟨gi, 6, none⟩ = some (.slice none 0 0) := blk_cell K4.out 6; have y7 : w7.cell? ⟨gi, 7, none⟩ = some (.slice none 0 0) := blk_cell K4.out 7; clear hA hb ho hs K3)
    | ((with_reducible refine gate_dst (N := 56) rfl ?_); refine lit_event ?hg (N := 56) ?hd (cs := #[.int .i64 o, .int .i64 0, .int .i64 0, .int .i64 1, .int .i64 0, .slice none 0 0, .slice none 0 0, .slice none 0 0]) (t := 44) (n := 1) ?hr ?_; (case hd => rfl); (case hg => rfl); (case hr => first | (go_simp; done) | (go_simp; rfl)); intro gm hggm w9 hA hb; replace B := Aside0.mk (below_step B.out hb); have P2 : Aside0 (k44.C w9 (some ⟨gm, 0, none⟩) 1 [⟨o, 0, 0, 1, 0, [], [], []⟩]) := ⟨c_leaf hA⟩; clear y0; clear y1; clear y2; clear y3; clear y4; clear y5; clear y6; clear y7; clear hggm hA hb K4)
    | (go_at_call 14; (with_reducible refine (put_er P2.out rfl (Nat.le_refl _) M1.out (by decide)).mono ?_); rintro e w10 ⟨rfl, hb⟩; replace B := Aside0.mk (below_step B.out hb); clear hb P2)
    | (go_at_call 16; (with_reducible refine (num_c _ _).mono ?_); rintro e w' ⟨rfl, rfl⟩))
  go_ret
  exact ⟨rfl, B.out⟩
set_option maxHeartbeats 4000000 in
set_option maxRecDepth 100000 in
theorem fields_3 (W : World) (x y o : Int) (ho : isOp o) (hx : (#[.int .i64 0, .int .i64 1, .int .i64 15, .int .i64 26, .int .i64 27, .int .i64 63, .int .i64 64, .int .i64 69, .int .i64 106, .int .i64 191] : Array Value)[((IntKind.u64.wrap x).tmod 10).toNat]? = some (.int .i64 o)) (hy : (IntKind.u64.wrap y).tmod 7 = 3) : Calls Try.prog 8 #[.int .i64 x, .int .i64 y] W fun e w' => e = .returned (.bool true) ∧ Below W.heap.size W w' := by
  have B := Aside0.mk (Below.refl W.heap.size W)
  have fm := fields_may ho
  have M0 := Aside0.mk (may_ok1 ⟨o, 0, 0, 0, 0, [], [], []⟩ rfl rfl fm.1 fm.2.1)
  have M1 := Aside0.mk (may_er1 ⟨o, 0, 0, 0, 64, [], [], []⟩ [] (fun h => fm.1 h.1) fm.2.2.2.2.2.1)
  have OA := Aside0.mk hx
  obtain ⟨p0, p1⟩ := op_rng x
  clear ho fm hx
  go_enter Try.func8, Try.ntmps8
  go_wp2_with (first
    | (go_at_call 20; (with_reducible refine (awake14_c _).mono ?_); rintro e w1 ⟨rfl, hb⟩; replace B := Aside0.mk (below_step B.out hb); clear hb)
    | ((with_reducible refine gate_dst (N := 13) rfl ?_); refine lit_event ?hg (N := 13) ?hd (cs := #[.int .i64 0, .int .i64 1, .int .i64 15, .int .i64 26, .int .i64 27, .int .i64 63, .int .i64 64, .int .i64 69, .int .i64 106, .int .i64 191]) (t := 3) (n := 10) ?hr ?_; (case hd => rfl); (case hg => rfl); (case hr => first | (go_simp; done) | (go_simp; rfl)); intro gp hggp w2 hA hb; replace B := Aside0.mk (below_step B.out hb); have z : w2.cell? ⟨gp, ((IntKind.u64.wrap x).tmod 10).toNat, none⟩ = some (.int .i64 o) := (blk_cell hA _).trans OA.out; clear hggp hA hb)
    | ((with_reducible refine gate_dst (N := 6) rfl ?_); refine box_event ?hg (N := 6) ?hd (cs := #[.int .i64 0, .int .i64 0, .int .i64 0, .int .i64 0, .int .i64 0, .slice none 0 0, .slice none 0 0, .slice none 0 0]) (t := 44) ?hr ?_; (case hd => rfl); (case hg => rfl); (case hr => first | (go_simp; done) | (go_simp; rfl)); intro gi hggi w3 hA hb; have GE := Aside0.mk (show W.heap.size ≤ gi by have := B.out.size; omega); replace B := Aside0.mk (below_step B.out hb); have K := Aside0.mk hA; clear hggi hA hb z)
    | ((with_reducible refine gate_store (p := 6) rfl ?_); refine storeRow_event (g := gi) rfl rfl rfl (cs := #[.int .i64 o, .int .i64 0, .int .i64 0, .int .i64 0, .int .i64 0, .slice none 0 0, .slice none 0 0, .slice none 0 0]) rfl rfl K.out (by kernel_rfl) rfl (by simp [Value.oneCell']) ?_; intro w4 hA hb ho hs; replace B := Aside0.mk (hb _ _ GE.out B.out); have K1 := Aside0.mk hA; have y0 : w4.cell? ⟨gi, 0, none⟩ = some (.int .i64 o) := blk_cell K1.out 0; have y1 : w4.cell? ⟨gi, 1, none⟩ = some (.int .i64 0) := blk_cell K1.out 1; have y2 : w4.cell? ⟨gi, 2, none⟩ = some (.int .i64 0) := blk_cell K1.out 2; have y3 : w4.cell? ⟨gi, 3, none⟩ = some (.int .i64 0) := blk_cell K1.out 3; have y4 : w4.cell? ⟨gi, 4, none⟩ = some (.int .i64 0) := blk_cell K1.out 4; have y5 : w4.cell? ⟨gi, 5, none⟩ = some (.slice none 0 0) := blk_cell K1.out 5; have y6 : w4.cell? ⟨gi, 6, none⟩ = some (.slice none 0 0) := blk_cell K1.out 6; have y7 : w4.cell? ⟨gi, 7, none⟩ = some (.slice none 0 0) := blk_cell K1.out 7; clear hA hb ho hs K)
    | ((with_reducible refine gate_dst (N := 23) rfl ?_); refine lit_event ?hg (N := 23) ?hd (cs := #[.int .i64 o, .int .i64 0, .int .i64 0, .int .i64 0, .int .i64 0, .slice none 0 0, .slice none 0 0, .slice none 0 0]) (t := 44) (n := 1) ?hr ?_; (case hd => rfl); (case hg => rfl); (case hr => first | (go_simp; done) | (go_simp; rfl)); intro gl hggl w5 hA hb; replace B := Aside0.mk (below_step B.out hb); have K2 := Aside0.mk (blk_below K1.out hb); have P := Aside0.mk (c_leaf hA); clear y0; clear y1; clear y2; clear y3; clear y4; clear y5; clear y6; clear y7; clear hggl hA hb K1;)
    | (go_at_call 14; (with_reducible refine (put_ok P.out rfl (Nat.le_refl _) (wf_leaf _ _ _ _) M0.out rfl).mono ?_); rintro e w6 ⟨rfl, hb⟩; replace B := Aside0.mk (below_step B.out hb); have K3 := Aside0.mk (blk_below K2.out hb); clear hb P K2)
    | ((with_reducible refine gate_store (p := 44) rfl ?_); refine storeCell_event (g := gi) (j := 4) (x := .int .i64 64) rfl rfl rfl rfl rfl K3.out (by simp) (by kernel_rfl) rfl ?_; intro w7 hA hb ho hs; replace B := Aside0.mk (hb _ _ GE.out B.out); have K4 : Aside0 (w7.heap[gi]? = some (.cells #[.int .i64 o, .int .i64 0, .int .i64 0, .int .i64 0, .int .i64 64, .slice none 0 0, .slice none 0 0, .slice none 0 0] 44 (0, 0))) := ⟨hA⟩; have y0 : w7.cell? ⟨gi, 0, none⟩ = some (.int .i64 o) := blk_cell K4.out 0; have y1 : w7.cell? ⟨gi, 1, none⟩ = some (.int .i64 0) := blk_cell K4.out 1; have y2 : w7.cell? ⟨gi, 2, none⟩ = some (.int .i64 0) := blk_cell K4.out 2; have y3 : w7.cell? ⟨gi, 3, none⟩ = some (.int .i64 0) := blk_cell K4.out 3; have y4 : w7.cell? ⟨gi, 4, none⟩ = some (.int .i64 64) := blk_cell K4.out 4; have y5 : w7.cell? ⟨gi, 5, none⟩ = some (.slice none 0 0) := blk_cell K4.out 5; have y6 : w7.cell? ⟨gi, 6, none⟩ = some (.slice none 0 0) := blk_cell K4.out 6; have y7 : w7.cell? ⟨gi, 7, none⟩ = some (.slice none 0 0) := blk_cell K4.out 7; clear hA hb ho hs K3)
    | ((with_reducible refine gate_dst (N := 56) rfl ?_); refine lit_event ?hg (N := 56) ?hd (cs := #[.int .i64 o, .int .i64 0, .int .i64 0, .int .i64 0, .int .i64 64, .slice none 0 0, .slice none 0 0, .slice none 0 0]) (t := 44) (n := 1) ?hr ?_; (case hd => rfl); (case hg => rfl); (case hr => first | (go_simp; done) | (go_simp; rfl)); intro gm hggm w9 hA hb; replace B := Aside0.mk (below_step B.out hb); have P2 : Aside0 (k44.C w9 (some ⟨gm, 0, none⟩) 1 [⟨o, 0, 0, 0, 64, [], [], []⟩]) := ⟨c_leaf hA⟩; clear y0; clear y1; clear y2; clear y3; clear y4; clear y5; clear y6; clear y7; clear hggm hA hb K4)
    | (go_at_call 14; (with_reducible refine (put_er P2.out rfl (Nat.le_refl _) M1.out (by decide)).mono ?_); rintro e w10 ⟨rfl, hb⟩; replace B := Aside0.mk (below_step B.out hb); clear hb P2)
    | (go_at_call 16; (with_reducible refine (num_c _ _).mono ?_); rintro e w' ⟨rfl, rfl⟩))
  go_ret
  exact ⟨rfl, B.out⟩
set_option maxHeartbeats 4000000 in
set_option maxRecDepth 100000 in
theorem fields_4 (W : World) (x y o : Int) (ho : isOp o) (hx : (#[.int .i64 0, .int .i64 1, .int .i64 15, .int .i64 26, .int .i64 27, .int .i64 63, .int .i64 64, .int .i64 69, .int .i64 106, .int .i64 191] : Array Value)[((IntKind.u64.wrap x).tmod 10).toNat]? = some (.int .i64 o)) (hy : (IntKind.u64.wrap y).tmod 7 = 4) : Calls Try.prog 8 #[.int .i64 x, .int .i64 y] W fun e w' => e = .returned (.bool true) ∧ Below W.heap.size W w' := by
  have B := Aside0.mk (Below.refl W.heap.size W)
  have fm := fields_may ho
  have M0 := Aside0.mk (may_ok1 ⟨o, 0, 0, 0, 0, [], [], []⟩ rfl rfl fm.1 fm.2.1)
  have M1 := Aside0.mk (may_er1 ⟨o, 0, 0, 0, 0, [0], [], []⟩ [] (fun h => fm.1 h.1) fm.2.2.2.2.2.2.1)
  have OA := Aside0.mk hx
  obtain ⟨p0, p1⟩ := op_rng x
  clear ho fm hx
  go_enter Try.func8, Try.ntmps8
  go_wp2_with (first
    | (go_at_call 20; (with_reducible refine (awake14_c _).mono ?_); rintro e w1 ⟨rfl, hb⟩; replace B := Aside0.mk (below_step B.out hb); clear hb)
    | ((with_reducible refine gate_dst (N := 13) rfl ?_); refine lit_event ?hg (N := 13) ?hd (cs := #[.int .i64 0, .int .i64 1, .int .i64 15, .int .i64 26, .int .i64 27, .int .i64 63, .int .i64 64, .int .i64 69, .int .i64 106, .int .i64 191]) (t := 3) (n := 10) ?hr ?_; (case hd => rfl); (case hg => rfl); (case hr => first | (go_simp; done) | (go_simp; rfl)); intro gp hggp w2 hA hb; replace B := Aside0.mk (below_step B.out hb); have z : w2.cell? ⟨gp, ((IntKind.u64.wrap x).tmod 10).toNat, none⟩ = some (.int .i64 o) := (blk_cell hA _).trans OA.out; clear hggp hA hb)
    | ((with_reducible refine gate_dst (N := 6) rfl ?_); refine box_event ?hg (N := 6) ?hd (cs := #[.int .i64 0, .int .i64 0, .int .i64 0, .int .i64 0, .int .i64 0, .slice none 0 0, .slice none 0 0, .slice none 0 0]) (t := 44) ?hr ?_; (case hd => rfl); (case hg => rfl); (case hr => first | (go_simp; done) | (go_simp; rfl)); intro gi hggi w3 hA hb; have GE := Aside0.mk (show W.heap.size ≤ gi by have := B.out.size; omega); replace B := Aside0.mk (below_step B.out hb); have K := Aside0.mk hA; clear hggi hA hb z)
    | ((with_reducible refine gate_store (p := 6) rfl ?_); refine storeRow_event (g := gi) rfl rfl rfl (cs := #[.int .i64 o, .int .i64 0, .int .i64 0, .int .i64 0, .int .i64 0, .slice none 0 0, .slice none 0 0, .slice none 0 0]) rfl rfl K.out (by kernel_rfl) rfl (by simp [Value.oneCell']) ?_; intro w4 hA hb ho hs; replace B := Aside0.mk (hb _ _ GE.out B.out); have K1 := Aside0.mk hA; have y0 : w4.cell? ⟨gi, 0, none⟩ = some (.int .i64 o) := blk_cell K1.out 0; have y1 : w4.cell? ⟨gi, 1, none⟩ = some (.int .i64 0) := blk_cell K1.out 1; have y2 : w4.cell? ⟨gi, 2, none⟩ = some (.int .i64 0) := blk_cell K1.out 2; have y3 : w4.cell? ⟨gi, 3, none⟩ = some (.int .i64 0) := blk_cell K1.out 3; have y4 : w4.cell? ⟨gi, 4, none⟩ = some (.int .i64 0) := blk_cell K1.out 4; have y5 : w4.cell? ⟨gi, 5, none⟩ = some (.slice none 0 0) := blk_cell K1.out 5; have y6 : w4.cell? ⟨gi, 6, none⟩ = some (.slice none 0 0) := blk_cell K1.out 6; have y7 : w4.cell? ⟨gi, 7, none⟩ = some (.slice none 0 0) := blk_cell K1.out 7; clear hA hb ho hs K)
    | ((with_reducible refine gate_dst (N := 23) rfl ?_); refine lit_event ?hg (N := 23) ?hd (cs := #[.int .i64 o, .int .i64 0, .int .i64 0, .int .i64 0, .int .i64 0, .slice none 0 0, .slice none 0 0, .slice none 0 0]) (t := 44) (n := 1) ?hr ?_; (case hd => rfl); (case hg => rfl); (case hr => first | (go_simp; done) | (go_simp; rfl)); intro gl hggl w5 hA hb; replace B := Aside0.mk (below_step B.out hb); have K2 := Aside0.mk (blk_below K1.out hb); have P := Aside0.mk (c_leaf hA); clear y0; clear y1; clear y2; clear y3; clear y4; clear y5; clear y6; clear y7; clear hggl hA hb K1;)
    | (go_at_call 14; (with_reducible refine (put_ok P.out rfl (Nat.le_refl _) (wf_leaf _ _ _ _) M0.out rfl).mono ?_); rintro e w6 ⟨rfl, hb⟩; replace B := Aside0.mk (below_step B.out hb); have K3 := Aside0.mk (blk_below K2.out hb); clear hb P K2)
    | ((with_reducible refine gate_dst (N := 47) rfl ?_); refine lit_event ?hg (N := 47) ?hd (cs := #[.int .i64 0]) (t := 3) (n := 1) ?hr ?_; (case hd => rfl); (case hg => rfl); (case hr => first | (go_simp; done) | (go_simp; rfl)); intro gx hggx w8 hA hb; replace B := Aside0.mk (below_step B.out hb); have NX := Aside0.mk (show gx ≠ gi by have := blk_lt K3.out; omega); have K5 := Aside0.mk (blk_below K3.out hb); have X := Aside0.mk hA; clear hggx hA hb K3)
    | ((with_reducible refine gate_store (p := 48) rfl ?_); refine storeCell_event (g := gi) (j := 5) (x := .slice (some ⟨gx, 0, none⟩) 1 1) rfl rfl rfl rfl rfl K5.out (by simp) (by kernel_rfl) rfl ?_; intro w7 hA hb ho hs; replace B := Aside0.mk (hb _ _ GE.out B.out); have K4 : Aside0 (w7.heap[gi]? = some (.cells #[.int .i64 o, .int .i64 0, .int .i64 0, .int .i64 0, .int .i64 0, .slice (some ⟨gx, 0, none⟩) 1 1, .slice none 0 0, .slice none 0 0] 44 (0, 0))) := ⟨hA⟩; have X2 := Aside0.mk ((ho gx NX.out).trans X.out); clear X; have y0 : w7.cell? ⟨gi, 0, none⟩ = some (.int .i64 o) := blk_cell K4.out 0; have y1 : w7.cell? ⟨gi, 1, none⟩ = some (.int .i64 0) := blk_cell K4.out 1; have y2 : w7.cell? ⟨gi, 2, none⟩ = some (.int .i64 0) := blk_cell K4.out 2; have y3 : w7.cell? ⟨gi, 3, none⟩ = some (.int .i64 0) := blk_cell K4.out 3; have y4 : w7.cell? ⟨gi, 4, none⟩ = some (.int .i64 0) := blk_cell K4.out 4; have y5 : w7.cell? ⟨gi, 5, none⟩ = some (.slice (some ⟨gx, 0, none⟩) 1 1) := blk_cell K4.out 5; have y6 : w7.cell? ⟨gi, 6, none⟩ = some (.slice none 0 0) := blk_cell K4.out 6; have y7 : w7.cell? ⟨gi, 7, none⟩ = some (.slice none 0 0) := blk_cell K4.out 7; clear hA hb ho hs K5)
    | ((with_reducible refine gate_dst (N := 56) rfl ?_); refine lit_event ?hg (N := 56) ?hd (cs := #[.int .i64 o, .int .i64 0, .int .i64 0, .int .i64 0, .int .i64 0, .slice (some ⟨gx, 0, none⟩) 1 1, .slice none 0 0, .slice none 0 0]) (t := 44) (n := 1) ?hr ?_; (case hd => rfl); (case hg => rfl); (case hr => first | (go_simp; done) | (go_simp; rfl)); intro gm hggm w9 hA hb; replace B := Aside0.mk (below_step B.out hb); have P2 : Aside0 (k44.C w9 (some ⟨gm, 0, none⟩) 1 [⟨o, 0, 0, 0, 0, [0], [], []⟩]) := ⟨c_lab (l := [0]) hA (Kd.C_below (c_int1 X2.out) hb)⟩; clear y0; clear y1; clear y2; clear y3; clear y4; clear y5; clear y6; clear y7; clear hggm hA hb K4)
    | (go_at_call 14; (with_reducible refine (put_er P2.out rfl (Nat.le_refl _) M1.out (by decide)).mono ?_); rintro e w10 ⟨rfl, hb⟩; replace B := Aside0.mk (below_step B.out hb); clear hb P2)
    | (go_at_call 16; (with_reducible refine (num_c _ _).mono ?_); rintro e w' ⟨rfl, rfl⟩))
  go_ret
  exact ⟨rfl, B.out⟩
set_option maxHeartbeats 4000000 in
set_option maxRecDepth 100000 in
theorem fields_5 (W : World) (x y o : Int) (ho : isOp o) (hx : (#[.int .i64 0, .int .i64 1, .int .i64 15, .int .i64 26, .int .i64 27, .int .i64 63, .int .i64 64, .int .i64 69, .int .i64 106, .int .i64 191] : Array Value)[((IntKind.u64.wrap x).tmod 10).toNat]? = some (.int .i64 o)) (hy : (IntKind.u64.wrap y).tmod 7 = 5) : Calls Try.prog 8 #[.int .i64 x, .int .i64 y] W fun e w' => e = .returned (.bool true) ∧ Below W.heap.size W w' := by
  have B := Aside0.mk (Below.refl W.heap.size W)
  have fm := fields_may ho
  have M0 := Aside0.mk (may_ok1 ⟨o, 0, 0, 0, 0, [], [], []⟩ rfl rfl fm.1 fm.2.1)
  have M1 := Aside0.mk (may_er1 ⟨o, 0, 0, 0, 0, [], [⟨1, 0, 0, 0, 0, [], [], []⟩], []⟩ [] (fun h => fm.1 h.1) fm.2.2.2.2.2.2.2.1)
  have OA := Aside0.mk hx
  obtain ⟨p0, p1⟩ := op_rng x
  clear ho fm hx
  go_enter Try.func8, Try.ntmps8
  go_wp2_with (first
    | (go_at_call 20; (with_reducible refine (awake14_c _).mono ?_); rintro e w1 ⟨rfl, hb⟩; replace B := Aside0.mk (below_step B.out hb); clear hb)
    | ((with_reducible refine gate_dst (N := 13) rfl ?_); refine lit_event ?hg (N := 13) ?hd (cs := #[.int .i64 0, .int .i64 1, .int .i64 15, .int .i64 26, .int .i64 27, .int .i64 63, .int .i64 64, .int .i64 69, .int .i64 106, .int .i64 191]) (t := 3) (n := 10) ?hr ?_; (case hd => rfl); (case hg => rfl); (case hr => first | (go_simp; done) | (go_simp; rfl)); intro gp hggp w2 hA hb; replace B := Aside0.mk (below_step B.out hb); have z : w2.cell? ⟨gp, ((IntKind.u64.wrap x).tmod 10).toNat, none⟩ = some (.int .i64 o) := (blk_cell hA _).trans OA.out; clear hggp hA hb)
    | ((with_reducible refine gate_dst (N := 6) rfl ?_); refine box_event ?hg (N := 6) ?hd (cs := #[.int .i64 0, .int .i64 0, .int .i64 0, .int .i64 0, .int .i64 0, .slice none 0 0, .slice none 0 0, .slice none 0 0]) (t := 44) ?hr ?_; (case hd => rfl); (case hg => rfl); (case hr => first | (go_simp; done) | (go_simp; rfl)); intro gi hggi w3 hA hb; have GE := Aside0.mk (show W.heap.size ≤ gi by have := B.out.size; omega); replace B := Aside0.mk (below_step B.out hb); have K := Aside0.mk hA; clear hggi hA hb z)
    | ((with_reducible refine gate_store (p := 6) rfl ?_); refine storeRow_event (g := gi) rfl rfl rfl (cs := #[.int .i64 o, .int .i64 0, .int .i64 0, .int .i64 0, .int .i64 0, .slice none 0 0, .slice none 0 0, .slice none 0 0]) rfl rfl K.out (by kernel_rfl) rfl (by simp [Value.oneCell']) ?_; intro w4 hA hb ho hs; replace B := Aside0.mk (hb _ _ GE.out B.out); have K1 := Aside0.mk hA; have y0 : w4.cell? ⟨gi, 0, none⟩ = some (.int .i64 o) := blk_cell K1.out 0; have y1 : w4.cell? ⟨gi, 1, none⟩ = some (.int .i64 0) := blk_cell K1.out 1; have y2 : w4.cell? ⟨gi, 2, none⟩ = some (.int .i64 0) := blk_cell K1.out 2; have y3 : w4.cell? ⟨gi, 3, none⟩ = some (.int .i64 0) := blk_cell K1.out 3; have y4 : w4.cell? ⟨gi, 4, none⟩ = some (.int .i64 0) := blk_cell K1.out 4; have y5 : w4.cell? ⟨gi, 5, none⟩ = some (.slice none 0 0) := blk_cell K1.out 5; have y6 : w4.cell? ⟨gi, 6, none⟩ = some (.slice none 0 0) := blk_cell K1.out 6; have y7 : w4.cell? ⟨gi, 7, none⟩ = some (.slice none 0 0) := blk_cell K1.out 7; clear hA hb ho hs K)
    | ((with_reducible refine gate_dst (N := 23) rfl ?_); refine lit_event ?hg (N := 23) ?hd (cs := #[.int .i64 o, .int .i64 0, .int .i64 0, .int .i64 0, .int .i64 0, .slice none 0 0, .slice none 0 0, .slice none 0 0]) (t := 44) (n := 1) ?hr ?_; (case hd => rfl); (case hg => rfl); (case hr => first | (go_simp; done) | (go_simp; rfl)); intro gl hggl w5 hA hb; replace B := Aside0.mk (below_step B.out hb); have K2 := Aside0.mk (blk_below K1.out hb); have P := Aside0.mk (c_leaf hA); clear y0; clear y1; clear y2; clear y3; clear y4; clear y5; clear y6; clear y7; clear hggl hA hb K1;)
    | (go_at_call 14; (with_reducible refine (put_ok P.out rfl (Nat.le_refl _) (wf_leaf _ _ _ _) M0.out rfl).mono ?_); rintro e w6 ⟨rfl, hb⟩; replace B := Aside0.mk (below_step B.out hb); have K3 := Aside0.mk (blk_below K2.out hb); clear hb P K2)
    | ((with_reducible refine gate_dst (N := 52) rfl ?_); refine lit_event ?hg (N := 52) ?hd (cs := #[.int .i64 1, .int .i64 0, .int .i64 0, .int .i64 0, .int .i64 0, .slice none 0 0, .slice none 0 0, .slice none 0 0]) (t := 44) (n := 1) ?hr ?_; (case hd => rfl); (case hg => rfl); (case hr => first | (go_simp; done) | (go_simp; rfl)); intro gx hggx w8 hA hb; replace B := Aside0.mk (below_step B.out hb); have NX := Aside0.mk (show gx ≠ gi by have := blk_lt K3.out; omega); have K5 := Aside0.mk (blk_below K3.out hb); have X := Aside0.mk hA; clear hggx hA hb K3)
    | ((with_reducible refine gate_store (p := 53) rfl ?_); refine storeCell_event (g := gi) (j := 6) (x := .slice (some ⟨gx, 0, none⟩) 1 1) rfl rfl rfl rfl rfl K5.out (by simp) (by kernel_rfl) rfl ?_; intro w7 hA hb ho hs; replace B := Aside0.mk (hb _ _ GE.out B.out); have K4 : Aside0 (w7.heap[gi]? = some (.cells #[.int .i64 o, .int .i64 0, .int .i64 0, .int .i64 0, .int .i64 0, .slice none 0 0, .slice (some ⟨gx, 0, none⟩) 1 1, .slice none 0 0] 44 (0, 0))) := ⟨hA⟩; have X2 := Aside0.mk ((ho gx NX.out).trans X.out); clear X; have y0 : w7.cell? ⟨gi, 0, none⟩ = some (.int .i64 o) := blk_cell K4.out 0; have y1 : w7.cell? ⟨gi, 1, none⟩ = some (.int .i64 0) := blk_cell K4.out 1; have y2 : w7.cell? ⟨gi, 2, none⟩ = some (.int .i64 0) := blk_cell K4.out 2; have y3 : w7.cell? ⟨gi, 3, none⟩ = some (.int .i64 0) := blk_cell K4.out 3; have y4 : w7.cell? ⟨gi, 4, none⟩ = some (.int .i64 0) := blk_cell K4.out 4; have y5 : w7.cell? ⟨gi, 5, none⟩ = some (.slice none 0 0) := blk_cell K4.out 5; have y6 : w7.cell? ⟨gi, 6, none⟩ = some (.slice (some ⟨gx, 0, none⟩) 1 1) := blk_cell K4.out 6; have y7 : w7.cell? ⟨gi, 7, none⟩ = some (.slice none 0 0) := blk_cell K4.out 7; clear hA hb ho hs K5)
    | ((with_reducible refine gate_dst (N := 56) rfl ?_); refine lit_event ?hg (N := 56) ?hd (cs := #[.int .i64 o, .int .i64 0, .int .i64 0, .int .i64 0, .int .i64 0, .slice none 0 0, .slice (some ⟨gx, 0, none⟩) 1 1, .slice none 0 0]) (t := 44) (n := 1) ?hr ?_; (case hd => rfl); (case hg => rfl); (case hr => first | (go_simp; done) | (go_simp; rfl)); intro gm hggm w9 hA hb; replace B := Aside0.mk (below_step B.out hb); have P2 : Aside0 (k44.C w9 (some ⟨gm, 0, none⟩) 1 [⟨o, 0, 0, 0, 0, [], [⟨1, 0, 0, 0, 0, [], [], []⟩], []⟩]) := ⟨c_block (body := [⟨1, 0, 0, 0, 0, [], [], []⟩]) (els := []) hA (c6 := 1) (Nat.le_refl _) (Kd.C_below (c_leaf X2.out) hb) (c7 := 0) (Nat.le_refl _) (c_nil _ _)⟩; clear y0; clear y1; clear y2; clear y3; clear y4; clear y5; clear y6; clear y7; clear hggm hA hb K4)
    | (go_at_call 14; (with_reducible refine (put_er P2.out rfl (Nat.le_refl _) M1.out (by decide)).mono ?_); rintro e w10 ⟨rfl, hb⟩; replace B := Aside0.mk (below_step B.out hb); clear hb P2)
    | (go_at_call 16; (with_reducible refine (num_c _ _).mono ?_); rintro e w' ⟨rfl, rfl⟩))
  go_ret
  exact ⟨rfl, B.out⟩
set_option maxHeartbeats 4000000 in
set_option maxRecDepth 100000 in
theorem fields_6 (W : World) (x y o : Int) (ho : isOp o) (hx : (#[.int .i64 0, .int .i64 1, .int .i64 15, .int .i64 26, .int .i64 27, .int .i64 63, .int .i64 64, .int .i64 69, .int .i64 106, .int .i64 191] : Array Value)[((IntKind.u64.wrap x).tmod 10).toNat]? = some (.int .i64 o)) (hy : (IntKind.u64.wrap y).tmod 7 = 6) : Calls Try.prog 8 #[.int .i64 x, .int .i64 y] W fun e w' => e = .returned (.bool true) ∧ Below W.heap.size W w' := by
  have B := Aside0.mk (Below.refl W.heap.size W)
  have fm := fields_may ho
  have M0 := Aside0.mk (may_ok1 ⟨o, 0, 0, 0, 0, [], [], []⟩ rfl rfl fm.1 fm.2.1)
  have M1 := Aside0.mk (may_er1 ⟨o, 0, 0, 0, 0, [], [], [⟨1, 0, 0, 0, 0, [], [], []⟩]⟩ [] (fun h => fm.1 h.1) fm.2.2.2.2.2.2.2.2)
  have OA := Aside0.mk hx
  obtain ⟨p0, p1⟩ := op_rng x
  clear ho fm hx
  go_enter Try.func8, Try.ntmps8
  go_wp2_with (first
    | (go_at_call 20; (with_reducible refine (awake14_c _).mono ?_); rintro e w1 ⟨rfl, hb⟩; replace B := Aside0.mk (below_step B.out hb); clear hb)
    | ((with_reducible refine gate_dst (N := 13) rfl ?_); refine lit_event ?hg (N := 13) ?hd (cs := #[.int .i64 0, .int .i64 1, .int .i64 15, .int .i64 26, .int .i64 27, .int .i64 63, .int .i64 64, .int .i64 69, .int .i64 106, .int .i64 191]) (t := 3) (n := 10) ?hr ?_; (case hd => rfl); (case hg => rfl); (case hr => first | (go_simp; done) | (go_simp; rfl)); intro gp hggp w2 hA hb; replace B := Aside0.mk (below_step B.out hb); have z : w2.cell? ⟨gp, ((IntKind.u64.wrap x).tmod 10).toNat, none⟩ = some (.int .i64 o) := (blk_cell hA _).trans OA.out; clear hggp hA hb)
    | ((with_reducible refine gate_dst (N := 6) rfl ?_); refine box_event ?hg (N := 6) ?hd (cs := #[.int .i64 0, .int .i64 0, .int .i64 0, .int .i64 0, .int .i64 0, .slice none 0 0, .slice none 0 0, .slice none 0 0]) (t := 44) ?hr ?_; (case hd => rfl); (case hg => rfl); (case hr => first | (go_simp; done) | (go_simp; rfl)); intro gi hggi w3 hA hb; have GE := Aside0.mk (show W.heap.size ≤ gi by have := B.out.size; omega); replace B := Aside0.mk (below_step B.out hb); have K := Aside0.mk hA; clear hggi hA hb z)
    | ((with_reducible refine gate_store (p := 6) rfl ?_); refine storeRow_event (g := gi) rfl rfl rfl (cs := #[.int .i64 o, .int .i64 0, .int .i64 0, .int .i64 0, .int .i64 0, .slice none 0 0, .slice none 0 0, .slice none 0 0]) rfl rfl K.out (by kernel_rfl) rfl (by simp [Value.oneCell']) ?_; intro w4 hA hb ho hs; replace B := Aside0.mk (hb _ _ GE.out B.out); have K1 := Aside0.mk hA; have y0 : w4.cell? ⟨gi, 0, none⟩ = some (.int .i64 o) := blk_cell K1.out 0; have y1 : w4.cell? ⟨gi, 1, none⟩ = some (.int .i64 0) := blk_cell K1.out 1; have y2 : w4.cell? ⟨gi, 2, none⟩ = some (.int .i64 0) := blk_cell K1.out 2; have y3 : w4.cell? ⟨gi, 3, none⟩ = some (.int .i64 0) := blk_cell K1.out 3; have y4 : w4.cell? ⟨gi, 4, none⟩ = some (.int .i64 0) := blk_cell K1.out 4; have y5 : w4.cell? ⟨gi, 5, none⟩ = some (.slice none 0 0) := blk_cell K1.out 5; have y6 : w4.cell? ⟨gi, 6, none⟩ = some (.slice none 0 0) := blk_cell K1.out 6; have y7 : w4.cell? ⟨gi, 7, none⟩ = some (.slice none 0 0) := blk_cell K1.out 7; clear hA hb ho hs K)
    | ((with_reducible refine gate_dst (N := 23) rfl ?_); refine lit_event ?hg (N := 23) ?hd (cs := #[.int .i64 o, .int .i64 0, .int .i64 0, .int .i64 0, .int .i64 0, .slice none 0 0, .slice none 0 0, .slice none 0 0]) (t := 44) (n := 1) ?hr ?_; (case hd => rfl); (case hg => rfl); (case hr => first | (go_simp; done) | (go_simp; rfl)); intro gl hggl w5 hA hb; replace B := Aside0.mk (below_step B.out hb); have K2 := Aside0.mk (blk_below K1.out hb); have P := Aside0.mk (c_leaf hA); clear y0; clear y1; clear y2; clear y3; clear y4; clear y5; clear y6; clear y7; clear hggl hA hb K1;)
    | (go_at_call 14; (with_reducible refine (put_ok P.out rfl (Nat.le_refl _) (wf_leaf _ _ _ _) M0.out rfl).mono ?_); rintro e w6 ⟨rfl, hb⟩; replace B := Aside0.mk (below_step B.out hb); have K3 := Aside0.mk (blk_below K2.out hb); clear hb P K2)
    | ((with_reducible refine gate_dst (N := 31) rfl ?_); refine lit_event ?hg (N := 31) ?hd (cs := #[.int .i64 1, .int .i64 0, .int .i64 0, .int .i64 0, .int .i64 0, .slice none 0 0, .slice none 0 0, .slice none 0 0]) (t := 44) (n := 1) ?hr ?_; (case hd => rfl); (case hg => rfl); (case hr => first | (go_simp; done) | (go_simp; rfl)); intro gx hggx w8 hA hb; replace B := Aside0.mk (below_step B.out hb); have NX := Aside0.mk (show gx ≠ gi by have := blk_lt K3.out; omega); have K5 := Aside0.mk (blk_below K3.out hb); have X := Aside0.mk hA; clear hggx hA hb K3)
    | ((with_reducible refine gate_store (p := 32) rfl ?_); refine storeCell_event (g := gi) (j := 7) (x := .slice (some ⟨gx, 0, none⟩) 1 1) rfl rfl rfl rfl rfl K5.out (by simp) (by kernel_rfl) rfl ?_; intro w7 hA hb ho hs; replace B := Aside0.mk (hb _ _ GE.out B.out); have K4 : Aside0 (w7.heap[gi]? = some (.cells #[.int .i64 o, .int .i64 0, .int .i64 0, .int .i64 0, .int .i64 0, .slice none 0 0, .slice none 0 0, .slice (some ⟨gx, 0, none⟩) 1 1] 44 (0, 0))) := ⟨hA⟩; have X2 := Aside0.mk ((ho gx NX.out).trans X.out); clear X; have y0 : w7.cell? ⟨gi, 0, none⟩ = some (.int .i64 o) := blk_cell K4.out 0; have y1 : w7.cell? ⟨gi, 1, none⟩ = some (.int .i64 0) := blk_cell K4.out 1; have y2 : w7.cell? ⟨gi, 2, none⟩ = some (.int .i64 0) := blk_cell K4.out 2; have y3 : w7.cell? ⟨gi, 3, none⟩ = some (.int .i64 0) := blk_cell K4.out 3; have y4 : w7.cell? ⟨gi, 4, none⟩ = some (.int .i64 0) := blk_cell K4.out 4; have y5 : w7.cell? ⟨gi, 5, none⟩ = some (.slice none 0 0) := blk_cell K4.out 5; have y6 : w7.cell? ⟨gi, 6, none⟩ = some (.slice none 0 0) := blk_cell K4.out 6; have y7 : w7.cell? ⟨gi, 7, none⟩ = some (.slice (some ⟨gx, 0, none⟩) 1 1) := blk_cell K4.out 7; clear hA hb ho hs K5)
    | ((with_reducible refine gate_dst (N := 56) rfl ?_); refine lit_event ?hg (N := 56) ?hd (cs := #[.int .i64 o, .int .i64 0, .int .i64 0, .int .i64 0, .int .i64 0, .slice none 0 0, .slice none 0 0, .slice (some ⟨gx, 0, none⟩) 1 1]) (t := 44) (n := 1) ?hr ?_; (case hd => rfl); (case hg => rfl); (case hr => first | (go_simp; done) | (go_simp; rfl)); intro gm hggm w9 hA hb; replace B := Aside0.mk (below_step B.out hb); have P2 : Aside0 (k44.C w9 (some ⟨gm, 0, none⟩) 1 [⟨o, 0, 0, 0, 0, [], [], [⟨1, 0, 0, 0, 0, [], [], []⟩]⟩]) := ⟨c_block (body := []) (els := [⟨1, 0, 0, 0, 0, [], [], []⟩]) hA (c6 := 0) (Nat.le_refl _) (c_nil _ _) (c7 := 1) (Nat.le_refl _) (Kd.C_below (c_leaf X2.out) hb)⟩; clear y0; clear y1; clear y2; clear y3; clear y4; clear y5; clear y6; clear y7; clear hggm hA hb K4)
    | (go_at_call 14; (with_reducible refine (put_er P2.out rfl (Nat.le_refl _) M1.out (by decide)).mono ?_); rintro e w10 ⟨rfl, hb⟩; replace B := Aside0.mk (below_step B.out hb); clear hb P2)
    | (go_at_call 16; (with_reducible refine (num_c _ _).mono ?_); rintro e w' ⟨rfl, rfl⟩))
  go_ret
  exact ⟨rfl, B.out⟩
theorem fields_calls (W : World) (x y : Int) : Calls Try.prog 8 #[.int .i64 x, .int .i64 y] W fun e w' => e = .returned (.bool true) ∧ Below W.heap.size W w' := by
  obtain ⟨o, ho, hx⟩ := op_at x
  obtain ⟨h0, h1⟩ := fld_rng y
  rcases (show (IntKind.u64.wrap y).tmod 7 = 0 ∨ (IntKind.u64.wrap y).tmod 7 = 1 ∨ (IntKind.u64.wrap y).tmod 7 = 2 ∨ (IntKind.u64.wrap y).tmod 7 = 3 ∨ (IntKind.u64.wrap y).tmod 7 = 4 ∨ (IntKind.u64.wrap y).tmod 7 = 5 ∨ (IntKind.u64.wrap y).tmod 7 = 6 by omega) with h | h | h | h | h | h | h
  · exact fields_0 W x y o ho hx h
  · exact fields_1 W x y o ho hx h
  · exact fields_2 W x y o ho hx h
  · exact fields_3 W x y o ho hx h
  · exact fields_4 W x y o ho hx h
  · exact fields_5 W x y o ho hx h
  · exact fields_6 W x y o ho hx h
end Go.Proofs.Ytbekfmeaeaghpaa.EInstr
