/-
  Consts.
-/
import Derived.Test.YtmofdpkddimmlaaEConN
import Derived.Test.YtmofdpkddimmlaaECopy
import Derived.Test.YtmofdpkddimmlaaEOpenM
namespace Go.Proofs.Ytmofdpkddimmlaa.EInstr
open Go Go.RowKit Go.Proofs.Ytmofdpkddimmlaa.F Go.Proofs.YtmofdpkddimmlaaW.Hand Go.Proofs.YtmofdpkddimmlaaW.Open2 Go.Proofs.YtmofdpkddimmlaaW.PrintWords Go.Proofs.YtmofdpkddimmlaaW.PrintLast Go.Proofs.YtmofdpkddimmlaaW.PrintMore
open Go.Proofs.Ytmofdpkddimmlaa.EFty (cnt nth cnt_le)
open Go.Proofs.Ytmofdpkddimmlaa.ESame (Fit copy_size same_size)
set_option linter.unusedVariables false
set_option linter.unusedSimpArgs false
set_option maxHeartbeats 16000000 in
set_option maxRecDepth 100000 in
theorem consts_calls {w : World} {imps : List S90} {gs : List S93} {is : List S106} {A : Option Addr} {c : Nat} (A0 Ai A2 A3 A4 Ag A6 A8 A9 A10 : Option Addr) (n0 n2 n3 n4 n6 n8 n9 n10 c0 ci c2 c3 c4 cg c6 c8 c9 c10 : Nat) (st : Int) {t : Int} (hlen : imps.length ≤ 140737488351232) (hgl : gs.length ≤ 140737488351232) (hI : k90.C w Ai imps.length imps) (hG : k93.C w Ag gs.length gs) (hA : k106.C w A is.length is) (hc : is.length ≤ c) (hfit : ∀ n, Fit n is) :
    Calls Try.prog 9 #[.agg #[.slice A0 n0 c0, .slice Ai imps.length ci, .slice A2 n2 c2, .slice A3 n3 c3, .slice A4 n4 c4, .slice Ag gs.length cg, .slice A6 n6 c6, .int .i64 st, .slice A8 n8 c8, .slice A9 n9 c9, .slice A10 n10 c10], .slice A is.length c, .int .i64 t] w fun e w' => e = .returned (.bool true) ∧ Below w.heap.size w w' := by
  have hu56 := Try.underlying56
  have HLEN := Aside0.mk hlen
  have HGL := Aside0.mk hgl
  have HI := Aside0.mk hI
  have HG := Aside0.mk hG
  have HA := Aside0.mk hA
  have HC := Aside0.mk hc
  have HFIT := Aside0.mk hfit
  clear hlen hgl hI hG hA hc hfit
  go_enter Try.func9, Try.ntmps9
  go_wp2_with (first
    | ((with_reducible refine gate_dst (N := 3) rfl ?_); refine box_event ?hg (N := 3) ?hd (cs := #[.slice A0 n0 c0, .slice Ai imps.length ci, .slice A2 n2 c2, .slice A3 n3 c3, .slice A4 n4 c4, .slice Ag gs.length cg, .slice A6 n6 c6, .int .i64 st, .slice A8 n8 c8, .slice A9 n9 c9, .slice A10 n10 c10]) (t := 69) ?hr ?_; (case hd => rfl); (case hg => rfl); (case hr => first | (go_simp; done) | (go_simp; rfl)); intro gm hggm w1 hA hb; have HB1 := Aside0.mk hb; have KM1 := Aside0.mk hA; clear hggm hA hb)
    | (go_at_call 40; (with_reducible refine (copy_size (SizeOf.sizeOf is) is (Nat.le_refl _) (HFIT.out _) _ (Kd.C_below HA.out HB1.out) HC.out).mono ?_); rintro e w2 ⟨P, p, rfl, hN, hb⟩; have HX := Aside0.mk (Kd.N_reads' hN).2.2; have HP := Aside0.mk (Kd.N_reads' hN).2.1; have HB2 := Aside0.mk (below_step HB1.out hb); have hKM := blk_below KM1.out hb; have hy : Below w2.heap.size w2 w2 := Below.refl _ _; have q0 : ∀ W, Below w2.heap.size w2 W → W.cell? ⟨gm, 0, none⟩ = some (.slice A0 n0 c0) := fun W h => pw_cell_below h (blk_cell hKM 0); have q1 : ∀ W, Below w2.heap.size w2 W → W.cell? ⟨gm, 1, none⟩ = some (.slice Ai imps.length ci) := fun W h => pw_cell_below h (blk_cell hKM 1); have q2 : ∀ W, Below w2.heap.size w2 W → W.cell? ⟨gm, 2, none⟩ = some (.slice A2 n2 c2) := fun W h => pw_cell_below h (blk_cell hKM 2); have q3 : ∀ W, Below w2.heap.size w2 W → W.cell? ⟨gm, 3, none⟩ = some (.slice A3 n3 c3) := fun W h => pw_cell_below h (blk_cell hKM 3); have q4 : ∀ W, Below w2.heap.size w2 W → W.cell? ⟨gm, 4, none⟩ = some (.slice A4 n4 c4) := fun W h => pw_cell_below h (blk_cell hKM 4); have q5 : ∀ W, Below w2.heap.size w2 W → W.cell? ⟨gm, 5, none⟩ = some (.slice Ag gs.length cg) := fun W h => pw_cell_below h (blk_cell hKM 5); have q6 : ∀ W, Below w2.heap.size w2 W → W.cell? ⟨gm, 6, none⟩ = some (.slice A6 n6 c6) := fun W h => pw_cell_below h (blk_cell hKM 6); have q7 : ∀ W, Below w2.heap.size w2 W → W.cell? ⟨gm, 7, none⟩ = some (.int .i64 st) := fun W h => pw_cell_below h (blk_cell hKM 7); have q8 : ∀ W, Below w2.heap.size w2 W → W.cell? ⟨gm, 8, none⟩ = some (.slice A8 n8 c8) := fun W h => pw_cell_below h (blk_cell hKM 8); have q9 : ∀ W, Below w2.heap.size w2 W → W.cell? ⟨gm, 9, none⟩ = some (.slice A9 n9 c9) := fun W h => pw_cell_below h (blk_cell hKM 9); have q10 : ∀ W, Below w2.heap.size w2 W → W.cell? ⟨gm, 10, none⟩ = some (.slice A10 n10 c10) := fun W h => pw_cell_below h (blk_cell hKM 10); clear hN hb hKM HB1 KM1)
    | (go_at_call 41; (with_reducible refine (check_calls A0 Ai A2 A3 A4 Ag A6 A8 A9 A10 n0 n2 n3 n4 n6 n8 n9 n10 c0 ci c2 c3 c4 cg c6 c8 c9 c10 st HLEN.out HGL.out (Kd.C_below HI.out (below_step HB2.out hy)) (Kd.C_below HG.out (below_step HB2.out hy)) (Kd.C_below HX.out hy) HP.out).mono ?_); rintro e w3 ⟨rfl, hb⟩; have hy0 := hy; clear hy; have hy : Below w2.heap.size w2 w3 := below_step hy0 hb; clear hy0; clear hb)
    | (go_at_call 42; (with_reducible refine (value_calls (imps := imps) (gs := gs) A0 Ai A2 A3 A4 Ag A6 A8 A9 A10 n0 n2 n3 n4 n6 n8 n9 n10 c0 ci c2 c3 c4 cg c6 c8 c9 c10 st (Kd.C_below HX.out hy) HP.out).mono ?_); rintro e w4 ⟨rfl, hb⟩; have hy0 := hy; clear hy; have hy : Below w2.heap.size w2 w4 := below_step hy0 hb; clear hy0; clear hb)
    | ((with_reducible refine gate_dst (N := 9) rfl ?_); refine box_event ?hg (N := 9) ?hd (cs := #[.int .i64 0, .int .i64 0]) (t := 56) ?hr ?_; (case hd => rfl); (case hg => rfl); (case hr => first | (go_simp; done) | (go_simp; rfl)); intro g9 hgg9 w5 hA hb; have G9 := Aside0.mk (show w2.heap.size ≤ g9 by rw [hgg9]; exact hy.size); have K9 := Aside0.mk hA; have hy0 := hy; clear hy; have hy : Below w2.heap.size w2 w5 := below_step hy0 hb; clear hy0; clear hA hb hgg9)
    | ((with_reducible refine gate_store (p := 9) rfl ?_); refine storeRow_event (g := g9) rfl rfl rfl (cs := #[.int .i64 (valT is), .int .i64 (valB is)]) rfl rfl K9.out (by kernel_rfl) rfl (by simp [Value.oneCell']) ?_; intro wr hA hb ho hs; have hy0 := hy; clear hy; have hy : Below w2.heap.size w2 wr := hb _ _ G9.out hy0; clear hy0; have hz : Below wr.heap.size wr wr := Below.refl _ _; have BV := Aside0.mk hA; have v0 : ∀ W, Below wr.heap.size wr W → W.cell? ⟨g9, 0, none⟩ = some (.int .i64 (valT is)) := fun W h => pw_cell_below h (blk_cell BV.out 0); have v1 : ∀ W, Below wr.heap.size wr W → W.cell? ⟨g9, 1, none⟩ = some (.int .i64 (valB is)) := fun W h => pw_cell_below h (blk_cell BV.out 1); clear BV hA hb ho hs K9 G9)
    | (go_at_call 43; (with_reducible refine (rvalue_calls (Kd.C_below HA.out (below_step HB2.out hy)) HC.out).mono ?_); rintro e w6 ⟨rfl, hb⟩; have hy0 := hy; clear hy; have hy : Below w2.heap.size w2 w6 := below_step hy0 hb; clear hy0; have hz0 := hz; clear hz; have hz : Below wr.heap.size wr w6 := below_step hz0 hb; clear hz0; clear hb)
    | ((with_reducible refine gate_dst (N := 11) rfl ?_); refine box_event ?hg (N := 11) ?hd (cs := #[.int .i64 0, .int .i64 0]) (t := 56) ?hr ?_; (case hd => rfl); (case hg => rfl); (case hr => first | (go_simp; done) | (go_simp; rfl)); intro g11 hgg11 w7 hA hb; have G11 := Aside0.mk (show w2.heap.size ≤ g11 by rw [hgg11]; exact hy.size); have Z11 := Aside0.mk (show wr.heap.size ≤ g11 by rw [hgg11]; exact hz.size); have K11 := Aside0.mk hA; have hy0 := hy; clear hy; have hy : Below w2.heap.size w2 w7 := below_step hy0 hb; clear hy0; have hz0 := hz; clear hz; have hz : Below wr.heap.size wr w7 := below_step hz0 hb; clear hz0; clear hA hb hgg11)
    | ((with_reducible refine gate_store (p := 11) rfl ?_); refine storeRow_event (g := g11) rfl rfl rfl (cs := #[.int .i64 (valT is), .int .i64 (valB is)]) rfl rfl K11.out (by kernel_rfl) rfl (by simp [Value.oneCell']) ?_; intro w8 hA hb ho hs; have hy0 := hy; clear hy; have hy : Below w2.heap.size w2 w8 := hb _ _ G11.out hy0; clear hy0; have hz0 := hz; clear hz; have hz : Below wr.heap.size wr w8 := hb _ _ Z11.out hz0; clear hz0; have u0 : w8.cell? ⟨g11, 0, none⟩ = some (.int .i64 (valT is)) := blk_cell hA 0; have u1 : w8.cell? ⟨g11, 1, none⟩ = some (.int .i64 (valB is)) := blk_cell hA 1; clear hA hb ho hs K11 G11 Z11))
  have z0 := q0 _ hy
  have z1 := q1 _ hy
  have z2 := q2 _ hy
  have z3 := q3 _ hy
  have z4 := q4 _ hy
  have z5 := q5 _ hy
  have z6 := q6 _ hy
  have z7 := q7 _ hy
  have z8 := q8 _ hy
  have z9 := q9 _ hy
  have z10 := q10 _ hy
  have z11 := v0 _ hz
  have z12 := v1 _ hz
  have z13 := u0
  have z14 := u1
  have HB8 := Aside0.mk (below_step HB2.out hy)
  have HX8 := Aside0.mk (Kd.C_below HX.out hy)
  clear q0 q1 q2 q3 q4 q5 q6 q7 q8 q9 q10 v0 v1 u0 u1 hy hz HX
  refine start_ (n := 27) (S := fun w' => w'.cell? ⟨gm, 0, none⟩ = some (.slice A0 n0 c0) ∧ w'.cell? ⟨gm, 1, none⟩ = some (.slice Ai imps.length ci) ∧ w'.cell? ⟨gm, 2, none⟩ = some (.slice A2 n2 c2) ∧ w'.cell? ⟨gm, 3, none⟩ = some (.slice A3 n3 c3) ∧ w'.cell? ⟨gm, 4, none⟩ = some (.slice A4 n4 c4) ∧ w'.cell? ⟨gm, 5, none⟩ = some (.slice Ag gs.length cg) ∧ w'.cell? ⟨gm, 6, none⟩ = some (.slice A6 n6 c6) ∧ w'.cell? ⟨gm, 7, none⟩ = some (.int .i64 st) ∧ w'.cell? ⟨gm, 8, none⟩ = some (.slice A8 n8 c8) ∧ w'.cell? ⟨gm, 9, none⟩ = some (.slice A9 n9 c9) ∧ w'.cell? ⟨gm, 10, none⟩ = some (.slice A10 n10 c10) ∧ w'.cell? ⟨g9, 0, none⟩ = some (.int .i64 (valT is)) ∧ w'.cell? ⟨g9, 1, none⟩ = some (.int .i64 (valB is)) ∧ w'.cell? ⟨g11, 0, none⟩ = some (.int .i64 (valT is)) ∧ w'.cell? ⟨g11, 1, none⟩ = some (.int .i64 (valB is))) (ds := []) #[false, false, false, false, false, false, false, false, false, false, false, false, false, false, false, false, false, false, false, false, false, false, false, false, false, false, false] (by kernel_rfl) rfl rfl ⟨z0, z1, z2, z3, z4, z5, z6, z7, z8, z9, z10, z11, z12, z13, z14⟩ (fun hHeld => ?_)
  refine pure_ (i := 0) (N := some 30) (v := ?_) (a' := ?_) #[true, false, false, false, false, false, false, false, false, false, false, false, false, false, false, false, false, false, false, false, false, false, false, false, false, false, false] rfl rfl (by kernel_rfl) (fun _ _ _ h => h) (Or.inl ⟨by rfl, ?_⟩) ?_ ?_
  rotate_left
  · intro w'
    go_simp
    with_reducible rfl
  rotate_left
  · simp only [Act.put, List.setIfInBounds_toArray, List.set_cons_zero, List.set_cons_succ, i64_w, i32_w]
    rfl
  refine pure_ (i := 3) (N := some 33) (v := ?_) (a' := ?_) #[true, false, false, true, false, false, false, false, false, false, false, false, false, false, false, false, false, false, false, false, false, false, false, false, false, false, false] rfl rfl (by kernel_rfl) (fun _ _ _ h => h) (Or.inl ⟨by rfl, ?_⟩) ?_ ?_
  rotate_left
  · intro w'
    go_simp
    with_reducible rfl
  rotate_left
  · simp only [Act.put, List.setIfInBounds_toArray, List.set_cons_zero, List.set_cons_succ, i64_w, i32_w]
    rfl
  refine pure_ (i := 4) (N := some 34) (v := ?_) (a' := ?_) #[true, false, false, true, true, false, false, false, false, false, false, false, false, false, false, false, false, false, false, false, false, false, false, false, false, false, false] rfl rfl (by kernel_rfl) (fun _ _ _ h => h) (Or.inl ⟨by rfl, ?_⟩) ?_ ?_
  rotate_left
  · intro w'
    go_simp
    with_reducible rfl
  rotate_left
  · simp only [Act.put, List.setIfInBounds_toArray, List.set_cons_zero, List.set_cons_succ, i64_w, i32_w]
    rfl
  refine take_ (i := 2) (N := some 32) (v := ?_) (a' := ?_) #[true, false, true, true, true, false, false, false, false, false, false, false, false, false, false, false, false, false, false, false, false, false, false, false, false, false, false] rfl rfl (by kernel_rfl) (fun _ _ _ h => h) (Or.inl ⟨by rfl, ?_⟩) hHeld ?_ ?_
  rotate_left
  · rintro w' ⟨s0, s1, s2, s3, s4, s5, s6, s7, s8, s9, s10, s11, s12, s13, s14⟩
    go_simp
    with_reducible rfl
  rotate_left
  · simp only [Act.put, List.setIfInBounds_toArray, List.set_cons_zero, List.set_cons_succ, i64_w, i32_w]
    rfl
  refine one_ (i := 1) (N := some 31) #[true, true, true, true, true, false, false, false, false, false, false, false, false, false, false, false, false, false, false, false, false, false, false, false, false, false, false] rfl rfl (by kernel_rfl) (by decide) (fun K hK => ?_)
  refine goes_ Try.func20 (by kernel_rfl) rfl #[.int .i64 (constE imps is t)] (by rfl) rfl rfl (by simp only [List.map_toArray, List.map_cons, List.map_nil]; rfl) ?_
  with_reducible refine (num_calls _ _).mono ?_
  rintro e w9 ⟨rfl, hb⟩
  refine ⟨_, rfl, ?_⟩
  have HY9 : Aside0 (Below w8.heap.size w8 w9) := ⟨below_step (below_drew (Below.refl _ _)) hb⟩
  clear hb
  refine hK.out _ _ ⟨pw_cell_below HY9.out z0, pw_cell_below HY9.out z1, pw_cell_below HY9.out z2, pw_cell_below HY9.out z3, pw_cell_below HY9.out z4, pw_cell_below HY9.out z5, pw_cell_below HY9.out z6, pw_cell_below HY9.out z7, pw_cell_below HY9.out z8, pw_cell_below HY9.out z9, pw_cell_below HY9.out z10, pw_cell_below HY9.out z11, pw_cell_below HY9.out z12, pw_cell_below HY9.out z13, pw_cell_below HY9.out z14⟩ (fun hHeld => ?_)
  clear hK K
  refine norm_ (a' := ?_) ?_ ?_
  rotate_left
  · show Act.put _ (some 31) _ = _
    simp only [Act.put, List.setIfInBounds_toArray, List.set_cons_zero, List.set_cons_succ, i64_w, i32_w]
    rfl
  refine one_ (i := 5) (N := some 35) #[true, true, true, true, true, true, false, false, false, false, false, false, false, false, false, false, false, false, false, false, false, false, false, false, false, false, false] rfl rfl (by kernel_rfl) (by decide) (fun K hK => ?_)
  refine goes_ Try.func44 (by kernel_rfl) rfl #[.agg #[.slice A0 n0 c0, .slice Ai imps.length ci, .slice A2 n2 c2, .slice A3 n3 c3, .slice A4 n4 c4, .slice Ag gs.length cg, .slice A6 n6 c6, .int .i64 st, .slice A8 n8 c8, .slice A9 n9 c9, .slice A10 n10 c10], .slice A is.length c, .int .i64 t] (by rfl) rfl rfl (by simp only [List.map_toArray, List.map_cons, List.map_nil]; rfl) ?_
  with_reducible refine (rconst_calls A0 Ai A2 A3 A4 Ag A6 A8 A9 A10 n0 n2 n3 n4 gs.length n6 n8 n9 n10 c0 ci c2 c3 c4 cg c6 c8 c9 c10 st HLEN.out (Kd.C_below HI.out (below_step HB8.out (HY9.out))) (Kd.C_below HA.out (below_step HB8.out (HY9.out))) HC.out).mono ?_
  rintro e w10 ⟨rfl, hb⟩
  refine ⟨_, rfl, ?_⟩
  have HY10 : Aside0 (Below w8.heap.size w8 w10) := ⟨below_step (HY9.out) hb⟩
  clear hb
  refine hK.out _ _ ⟨pw_cell_below HY10.out z0, pw_cell_below HY10.out z1, pw_cell_below HY10.out z2, pw_cell_below HY10.out z3, pw_cell_below HY10.out z4, pw_cell_below HY10.out z5, pw_cell_below HY10.out z6, pw_cell_below HY10.out z7, pw_cell_below HY10.out z8, pw_cell_below HY10.out z9, pw_cell_below HY10.out z10, pw_cell_below HY10.out z11, pw_cell_below HY10.out z12, pw_cell_below HY10.out z13, pw_cell_below HY10.out z14⟩ (fun hHeld => ?_)
  clear hK K
  refine norm_ (a' := ?_) ?_ ?_
  rotate_left
  · show Act.put _ (some 35) _ = _
    simp only [Act.put, List.setIfInBounds_toArray, List.set_cons_zero, List.set_cons_succ, i64_w, i32_w]
    rfl
  refine pure_ (i := 6) (N := some 36) (v := ?_) (a' := ?_) #[true, true, true, true, true, true, true, false, false, false, false, false, false, false, false, false, false, false, false, false, false, false, false, false, false, false, false] rfl rfl (by kernel_rfl) (fun _ _ _ h => h) (Or.inl ⟨by rfl, ?_⟩) ?_ ?_
  rotate_left
  · intro w'
    go_simp
    with_reducible rfl
  rotate_left
  · simp only [Act.put, List.setIfInBounds_toArray, List.set_cons_zero, List.set_cons_succ, i64_w, i32_w]
    rfl
  refine pure_ (i := 7) (N := some 37) (v := ?_) (a' := ?_) #[true, true, true, true, true, true, true, true, false, false, false, false, false, false, false, false, false, false, false, false, false, false, false, false, false, false, false] rfl rfl (by kernel_rfl) (fun _ _ _ h => h) (Or.inl ⟨by rfl, ?_⟩) ?_ ?_
  rotate_left
  · intro w'
    go_simp
    with_reducible rfl
  rotate_left
  · simp only [Act.put, List.setIfInBounds_toArray, List.set_cons_zero, List.set_cons_succ, i64_w, i32_w]
    rfl
  refine take_ (i := 8) (N := some 38) (v := ?_) (a' := ?_) #[true, true, true, true, true, true, true, true, true, false, false, false, false, false, false, false, false, false, false, false, false, false, false, false, false, false, false] rfl rfl (by kernel_rfl) (fun _ _ _ h => h) (Or.inl ⟨by rfl, ?_⟩) hHeld ?_ ?_
  rotate_left
  · rintro w' ⟨s0, s1, s2, s3, s4, s5, s6, s7, s8, s9, s10, s11, s12, s13, s14⟩
    go_simp
    with_reducible rfl
  rotate_left
  · simp only [Act.put, List.setIfInBounds_toArray, List.set_cons_zero, List.set_cons_succ, i64_w, i32_w]
    rfl
  refine take_ (i := 9) (N := some 39) (v := ?_) (a' := ?_) #[true, true, true, true, true, true, true, true, true, true, false, false, false, false, false, false, false, false, false, false, false, false, false, false, false, false, false] rfl rfl (by kernel_rfl) (fun _ _ _ h => h) (Or.inl ⟨by rfl, ?_⟩) hHeld ?_ ?_
  rotate_left
  · rintro w' ⟨s0, s1, s2, s3, s4, s5, s6, s7, s8, s9, s10, s11, s12, s13, s14⟩
    go_simp
    with_reducible rfl
  rotate_left
  · simp only [Act.put, List.setIfInBounds_toArray, List.set_cons_zero, List.set_cons_succ, i64_w, i32_w]
    rfl
  refine pure_ (i := 10) (N := some 40) (v := ?_) (a' := ?_) #[true, true, true, true, true, true, true, true, true, true, true, false, false, false, false, false, false, false, false, false, false, false, false, false, false, false, false] rfl rfl (by kernel_rfl) (fun _ _ _ h => h) (Or.inl ⟨by rfl, ?_⟩) ?_ ?_
  rotate_left
  · intro w'
    go_simp
    with_reducible rfl
  rotate_left
  · simp only [Act.put, List.setIfInBounds_toArray, List.set_cons_zero, List.set_cons_succ, i64_w, i32_w]
    rfl
  refine pure_ (i := 11) (N := some 41) (v := ?_) (a' := ?_) #[true, true, true, true, true, true, true, true, true, true, true, true, false, false, false, false, false, false, false, false, false, false, false, false, false, false, false] rfl rfl (by kernel_rfl) (fun _ _ _ h => h) (Or.inl ⟨by rfl, ?_⟩) ?_ ?_
  rotate_left
  · intro w'
    go_simp
    with_reducible rfl
  rotate_left
  · simp only [Act.put, List.setIfInBounds_toArray, List.set_cons_zero, List.set_cons_succ, i64_w, i32_w]
    rfl
  refine pure_ (i := 12) (N := some 42) (v := ?_) (a' := ?_) #[true, true, true, true, true, true, true, true, true, true, true, true, true, false, false, false, false, false, false, false, false, false, false, false, false, false, false] rfl rfl (by kernel_rfl) (fun _ _ _ h => h) (Or.inl ⟨by rfl, ?_⟩) ?_ ?_
  rotate_left
  · intro w'
    go_simp
    with_reducible rfl
  rotate_left
  · simp only [Act.put, List.setIfInBounds_toArray, List.set_cons_zero, List.set_cons_succ, i64_w, i32_w]
    rfl
  refine pure_ (i := 13) (N := some 43) (v := ?_) (a' := ?_) #[true, true, true, true, true, true, true, true, true, true, true, true, true, true, false, false, false, false, false, false, false, false, false, false, false, false, false] rfl rfl (by kernel_rfl) (fun _ _ _ h => h) (Or.inl ⟨by rfl, ?_⟩) ?_ ?_
  rotate_left
  · intro w'
    go_simp
    with_reducible rfl
  rotate_left
  · simp only [Act.put, List.setIfInBounds_toArray, List.set_cons_zero, List.set_cons_succ, i64_w, i32_w]
    rfl
  refine pure_ (i := 15) (N := some 45) (v := ?_) (a' := ?_) #[true, true, true, true, true, true, true, true, true, true, true, true, true, true, false, true, false, false, false, false, false, false, false, false, false, false, false] rfl rfl (by kernel_rfl) (fun _ _ _ h => h) (Or.inl ⟨by rfl, ?_⟩) ?_ ?_
  rotate_left
  · intro w'
    go_simp
    with_reducible rfl
  rotate_left
  · simp only [Act.put, List.setIfInBounds_toArray, List.set_cons_zero, List.set_cons_succ, i64_w, i32_w]
    rfl
  refine one_ (i := 14) (N := some 44) #[true, true, true, true, true, true, true, true, true, true, true, true, true, true, true, true, false, false, false, false, false, false, false, false, false, false, false] rfl rfl (by kernel_rfl) (by decide) (fun K hK => ?_)
  refine goes_ Try.func20 (by kernel_rfl) rfl #[.int .i64 (valE is)] (by rfl) rfl rfl (by simp only [List.map_toArray, List.map_cons, List.map_nil]; rfl) ?_
  with_reducible refine (num_calls _ _).mono ?_
  rintro e w11 ⟨rfl, hb⟩
  refine ⟨_, rfl, ?_⟩
  have HY11 : Aside0 (Below w8.heap.size w8 w11) := ⟨below_step (HY10.out) hb⟩
  clear hb
  refine hK.out _ _ ⟨pw_cell_below HY11.out z0, pw_cell_below HY11.out z1, pw_cell_below HY11.out z2, pw_cell_below HY11.out z3, pw_cell_below HY11.out z4, pw_cell_below HY11.out z5, pw_cell_below HY11.out z6, pw_cell_below HY11.out z7, pw_cell_below HY11.out z8, pw_cell_below HY11.out z9, pw_cell_below HY11.out z10, pw_cell_below HY11.out z11, pw_cell_below HY11.out z12, pw_cell_below HY11.out z13, pw_cell_below HY11.out z14⟩ (fun hHeld => ?_)
  clear hK K
  refine norm_ (a' := ?_) ?_ ?_
  rotate_left
  · show Act.put _ (some 44) _ = _
    simp only [Act.put, List.setIfInBounds_toArray, List.set_cons_zero, List.set_cons_succ, i64_w, i32_w]
    rfl
  refine pure_ (i := 16) (N := some 46) (v := ?_) (a' := ?_) #[true, true, true, true, true, true, true, true, true, true, true, true, true, true, true, true, true, false, false, false, false, false, false, false, false, false, false] rfl rfl (by kernel_rfl) (fun _ _ _ h => h) (Or.inl ⟨by rfl, ?_⟩) ?_ ?_
  rotate_left
  · intro w'
    go_simp
    with_reducible rfl
  rotate_left
  · simp only [Act.put, List.setIfInBounds_toArray, List.set_cons_zero, List.set_cons_succ, i64_w, i32_w]
    rfl
  refine pure_ (i := 17) (N := some 47) (v := ?_) (a' := ?_) #[true, true, true, true, true, true, true, true, true, true, true, true, true, true, true, true, true, true, false, false, false, false, false, false, false, false, false] rfl rfl (by kernel_rfl) (fun _ _ _ h => h) (Or.inl ⟨by rfl, ?_⟩) ?_ ?_
  rotate_left
  · intro w'
    go_simp
    with_reducible rfl
  rotate_left
  · simp only [Act.put, List.setIfInBounds_toArray, List.set_cons_zero, List.set_cons_succ, i64_w, i32_w]
    rfl
  refine pure_ (i := 18) (N := some 48) (v := ?_) (a' := ?_) #[true, true, true, true, true, true, true, true, true, true, true, true, true, true, true, true, true, true, true, false, false, false, false, false, false, false, false] rfl rfl (by kernel_rfl) (fun _ _ _ h => h) (Or.inl ⟨by rfl, ?_⟩) ?_ ?_
  rotate_left
  · intro w'
    go_simp
    with_reducible rfl
  rotate_left
  · simp only [Act.put, List.setIfInBounds_toArray, List.set_cons_zero, List.set_cons_succ, i64_w, i32_w]
    rfl
  refine pure_ (i := 19) (N := some 49) (v := ?_) (a' := ?_) #[true, true, true, true, true, true, true, true, true, true, true, true, true, true, true, true, true, true, true, true, false, false, false, false, false, false, false] rfl rfl (by kernel_rfl) (fun _ _ _ h => h) (Or.inl ⟨by rfl, ?_⟩) ?_ ?_
  rotate_left
  · intro w'
    go_simp
    with_reducible rfl
  rotate_left
  · simp only [Act.put, List.setIfInBounds_toArray, List.set_cons_zero, List.set_cons_succ, i64_w, i32_w]
    rfl
  refine pure_ (i := 20) (N := some 50) (v := ?_) (a' := ?_) #[true, true, true, true, true, true, true, true, true, true, true, true, true, true, true, true, true, true, true, true, true, false, false, false, false, false, false] rfl rfl (by kernel_rfl) (fun _ _ _ h => h) (Or.inl ⟨by rfl, ?_⟩) ?_ ?_
  rotate_left
  · intro w'
    go_simp
    with_reducible rfl
  rotate_left
  · simp only [Act.put, List.setIfInBounds_toArray, List.set_cons_zero, List.set_cons_succ, i64_w, i32_w]
    rfl
  refine one_ (i := 21) (N := some 51) #[true, true, true, true, true, true, true, true, true, true, true, true, true, true, true, true, true, true, true, true, true, true, false, false, false, false, false] rfl rfl (by kernel_rfl) (by decide) (fun K hK => ?_)
  refine goes_ Try.func45 (by kernel_rfl) rfl #[.slice P is.length p, .slice A is.length c] (by rfl) rfl rfl (by simp only [List.map_toArray, List.map_cons, List.map_nil]; rfl) ?_
  with_reducible refine (same_size (SizeOf.sizeOf is) is (Nat.le_refl _) _ (Kd.C_below HX8.out (HY11.out)) HP.out (Kd.C_below HA.out (below_step HB8.out (HY11.out))) HC.out).mono ?_
  rintro e w12 ⟨rfl, hb⟩
  refine ⟨_, rfl, ?_⟩
  have HY12 : Aside0 (Below w8.heap.size w8 w12) := ⟨below_step (HY11.out) hb⟩
  clear hb
  refine hK.out _ _ ⟨pw_cell_below HY12.out z0, pw_cell_below HY12.out z1, pw_cell_below HY12.out z2, pw_cell_below HY12.out z3, pw_cell_below HY12.out z4, pw_cell_below HY12.out z5, pw_cell_below HY12.out z6, pw_cell_below HY12.out z7, pw_cell_below HY12.out z8, pw_cell_below HY12.out z9, pw_cell_below HY12.out z10, pw_cell_below HY12.out z11, pw_cell_below HY12.out z12, pw_cell_below HY12.out z13, pw_cell_below HY12.out z14⟩ (fun hHeld => ?_)
  clear hK K
  refine norm_ (a' := ?_) ?_ ?_
  rotate_left
  · show Act.put _ (some 51) _ = _
    simp only [Act.put, List.setIfInBounds_toArray, List.set_cons_zero, List.set_cons_succ, i64_w, i32_w]
    rfl
  refine pure_ (i := 22) (N := some 52) (v := ?_) (a' := ?_) #[true, true, true, true, true, true, true, true, true, true, true, true, true, true, true, true, true, true, true, true, true, true, true, false, false, false, false] rfl rfl (by kernel_rfl) (fun _ _ _ h => h) (Or.inl ⟨by rfl, ?_⟩) ?_ ?_
  rotate_left
  · intro w'
    go_simp
    with_reducible rfl
  rotate_left
  · simp only [Act.put, List.setIfInBounds_toArray, List.set_cons_zero, List.set_cons_succ, i64_w, i32_w]
    rfl
  refine pure_ (i := 23) (N := some 53) (v := ?_) (a' := ?_) #[true, true, true, true, true, true, true, true, true, true, true, true, true, true, true, true, true, true, true, true, true, true, true, true, false, false, false] rfl rfl (by kernel_rfl) (fun _ _ _ h => h) (Or.inl ⟨by rfl, ?_⟩) ?_ ?_
  rotate_left
  · intro w'
    go_simp
    with_reducible rfl
  rotate_left
  · simp only [Act.put, List.setIfInBounds_toArray, List.set_cons_zero, List.set_cons_succ, i64_w, i32_w]
    rfl
  refine one_ (i := 24) (N := some 54) #[true, true, true, true, true, true, true, true, true, true, true, true, true, true, true, true, true, true, true, true, true, true, true, true, true, false, false] rfl rfl (by kernel_rfl) (by decide) (fun K hK => ?_)
  refine goes_ Try.func46 (by kernel_rfl) rfl #[] (by rfl) rfl rfl (by first | rfl | (simp only [List.map_toArray, List.map_cons, List.map_nil]; done)) ?_
  with_reducible refine (awake_calls _).mono ?_
  rintro e w13 ⟨rfl, hb⟩
  refine ⟨_, rfl, ?_⟩
  have HY13 : Aside0 (Below w8.heap.size w8 w13) := ⟨below_step (HY12.out) hb⟩
  clear hb
  refine hK.out _ _ ⟨pw_cell_below HY13.out z0, pw_cell_below HY13.out z1, pw_cell_below HY13.out z2, pw_cell_below HY13.out z3, pw_cell_below HY13.out z4, pw_cell_below HY13.out z5, pw_cell_below HY13.out z6, pw_cell_below HY13.out z7, pw_cell_below HY13.out z8, pw_cell_below HY13.out z9, pw_cell_below HY13.out z10, pw_cell_below HY13.out z11, pw_cell_below HY13.out z12, pw_cell_below HY13.out z13, pw_cell_below HY13.out z14⟩ (fun hHeld => ?_)
  clear hK K
  refine norm_ (a' := ?_) ?_ ?_
  rotate_left
  · show Act.put _ (some 54) _ = _
    simp only [Act.put, List.setIfInBounds_toArray, List.set_cons_zero, List.set_cons_succ, i64_w, i32_w]
    rfl
  refine pure_ (i := 25) (N := some 55) (v := ?_) (a' := ?_) #[true, true, true, true, true, true, true, true, true, true, true, true, true, true, true, true, true, true, true, true, true, true, true, true, true, true, false] rfl rfl (by kernel_rfl) (fun _ _ _ h => h) (Or.inl ⟨by rfl, ?_⟩) ?_ ?_
  rotate_left
  · intro w'
    go_simp
    with_reducible rfl
  rotate_left
  · simp only [Act.put, List.setIfInBounds_toArray, List.set_cons_zero, List.set_cons_succ, i64_w, i32_w]
    rfl
  refine pure_ (i := 26) (N := some 6) (v := ?_) (a' := ?_) #[true, true, true, true, true, true, true, true, true, true, true, true, true, true, true, true, true, true, true, true, true, true, true, true, true, true, true] rfl rfl (by kernel_rfl) (fun _ _ _ h => h) (Or.inl ⟨by rfl, ?_⟩) ?_ ?_
  rotate_left
  · intro w'
    go_simp
    with_reducible rfl
  rotate_left
  · simp only [Act.put, List.setIfInBounds_toArray, List.set_cons_zero, List.set_cons_succ, i64_w, i32_w]
    rfl
  refine done_ (by kernel_rfl) ?_
  go_wp2
  go_ret
  exact ⟨rfl, below_step HB8.out HY13.out⟩
theorem consts_row {w : World} {m : _} {cm : List Value} {is : List S106} {ci : List Value} {t : Int} (h0 : kMod.K w m cm) (g0 : m.2.1.length ≤ 140737488351232 ∧ m.2.2.2.2.2.1.length ≤ 140737488351232) (h1 : (Kd.slice 106 k106).K w is ci) (g1 : ∀ n, Fit n is) :
    Calls Try.prog 9 #[.agg cm.toArray, ci.headD undef, .int .i64 t] w fun e w' => e = .returned (.bool true) ∧ Below w.heap.size w w' := by
  obtain ⟨A, c, rfl, hc, hA⟩ := h1
  obtain ⟨_, _, rfl, rfl, ⟨_, _, rfl, ⟨Ai, ci', rfl, li, hI⟩, ⟨_, _, rfl, rfl, ⟨_, _, rfl, rfl, ⟨_, _, rfl, rfl, ⟨_, _, rfl, ⟨Ag, cg, rfl, lg, hG⟩, ⟨_, _, rfl, rfl, ⟨_, _, rfl, rfl, ⟨_, _, rfl, rfl, ⟨_, _, rfl, rfl, rfl⟩⟩⟩⟩⟩⟩⟩⟩⟩⟩ := h0
  exact consts_calls _ _ _ _ _ _ _ _ _ _ _ _ _ _ _ _ _ _ _ _ _ _ _ _ _ _ _ _ _ g0.1 g0.2 hI hG hA hc g1
end Go.Proofs.Ytmofdpkddimmlaa.EInstr
