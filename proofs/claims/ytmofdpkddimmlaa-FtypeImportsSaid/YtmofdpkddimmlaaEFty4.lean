/-
  ftype.Func.
-/
import Derived.Test.YtmofdpkddimmlaaEFty3
import Derived.Test.YtmofdpkddimmlaaFx2
namespace Go.Proofs.Ytmofdpkddimmlaa.EFty
open Go Go.RowKit Go.Proofs.Ytmofdpkddimmlaa.F Go.Proofs.YtmofdpkddimmlaaW.Hand Go.Proofs.YtmofdpkddimmlaaW.PrintWords Go.Proofs.YtmofdpkddimmlaaW.PrintLast Go.Proofs.YtmofdpkddimmlaaW.PrintMore
set_option linter.unusedVariables false
set_option linter.unusedSimpArgs false
/-- What ftype.Func answers. -/
def funcOf (imps : List S90) (ts : List S36) (fs : List Int) (k : Int) : (List Int × List Int) × Int :=
  if k < 0 ∨ placeOf imps fs k < 0 ∨ (ts.length : Int) ≤ placeOf imps fs k then (([], []), 1701) else (((rd_T36 ts (placeOf imps fs k)).f0, (rd_T36 ts (placeOf imps fs k)).f1), 0)
set_option maxRecDepth 100000 in
set_option maxHeartbeats 8000000 in
theorem func_calls (w : World) (imps : List S90) (ts : List S36) (fs : List Int) (k : Int) (A0 A A2 A3 A4 A5 A6 A8 A9 A10 : Option Addr) (n3 n4 n5 n6 n8 n9 n10 c0 c c2 c3 c4 c5 c6 c8 c9 c10 : Nat) (st : Int) (hlen : imps.length ≤ 140737488351232) (hfl : fs.length ≤ 140737488351232) (hk1 : k < 9223372036854775808)
    (hsz : ∀ i : Int, (rd_T36 ts i).f0.length * 8 ≤ 140737488351232 ∧ (rd_T36 ts i).f1.length * 8 ≤ 140737488351232) (hT : k36.C w A0 ts.length ts) (hI : k90.C w A imps.length imps) (hF : (Kd.int .i64).C w A2 fs.length fs) :
    Calls Try.prog 26 #[.agg #[.slice A0 ts.length c0, .slice A imps.length c, .slice A2 fs.length c2, .slice A3 n3 c3, .slice A4 n4 c4, .slice A5 n5 c5, .slice A6 n6 c6, .int .i64 st, .slice A8 n8 c8, .slice A9 n9 c9, .slice A10 n10 c10], .int .i64 k] w fun e w' => ∃ v0 v1, e = .returned (.tuple #[.agg #[v0, v1], .int .i64 (funcOf imps ts fs k).2]) ∧ Kd.R (Kd.int .i64) 3 w' w.heap.size (fun _ => True) v0 (funcOf imps ts fs k).1.1 ∧ Kd.R (Kd.int .i64) 3 w' w.heap.size (fun _ => True) v1 (funcOf imps ts fs k).1.2 ∧ (v0.ownBlock = none ∨ v0.ownBlock ≠ v1.ownBlock) ∧ Below w.heap.size w w' := by
  replace hT := Aside0.mk hT
  replace hI := Aside0.mk hI
  replace hF := Aside0.mk hF
  obtain ⟨P, hP0⟩ : ∃ P, P = placeOf imps fs k := ⟨_, rfl⟩
  have hP := Aside0.mk hP0
  clear hP0
  by_cases hbad : k < 0 ∨ P < 0 ∨ (ts.length : Int) ≤ P
  · have hfo : funcOf imps ts fs k = (([], []), 1701) := by unfold funcOf; rw [← hP.out, if_pos hbad]
    rw [hfo]
    have HBAD := Aside0.mk hbad
    clear hbad hfo
    go_enter Try.func26, Try.ntmps26
    go_wp2_with (first
        | ((with_reducible refine gate_dst (N := 2) rfl ?_); refine box_event ?hg (N := 2) ?hd (cs := #[.slice A0 ts.length c0, .slice A imps.length c, .slice A2 fs.length c2, .slice A3 n3 c3, .slice A4 n4 c4, .slice A5 n5 c5, .slice A6 n6 c6, .int .i64 st, .slice A8 n8 c8, .slice A9 n9 c9, .slice A10 n10 c10]) (t := 69) ?hr ?_; (case hd => rfl); (case hg => rfl); (case hr => first | (go_simp; done) | (go_simp; rfl)); intro g hgg w1 hA hb; have hB := Aside0.mk hb; have GA := Aside0.mk hA; have hlt := Aside0.mk (show w.heap.size ≤ g by rw [hgg]; exact Nat.le_refl _); clear hgg hb hA)
        | ((with_reducible refine gate_dst (N := 4) rfl ?_); refine box_event ?hg (N := 4) ?hd (cs := #[.slice none 0 0, .slice none 0 0]) (t := 36) ?hr ?_; (case hd => rfl); (case hg => rfl); (case hr => first | (go_simp; done) | (go_simp; rfl)); intro gt hggt w2 hA hb; have hgl := Aside0.mk (show w1.heap.size ≤ gt by rw [hggt]; exact Nat.le_refl _); have hne := Aside0.mk (show g ≠ gt by rw [hggt]; exact Nat.ne_of_lt (blk_lt GA.out)); have hB2 := Aside0.mk (below_step hB.out hb); have GA2 := Aside0.mk (blk_below GA.out hb); have GT := Aside0.mk hA; have X1 := Aside0.mk (show w2.cell? ⟨g, 1, none⟩ = some (.slice A imps.length c) from blk_cell GA2.out 1); have X2 := Aside0.mk (show w2.cell? ⟨g, 2, none⟩ = some (.slice A2 fs.length c2) from blk_cell GA2.out 2); have XP := Aside0.mk (place_calls _ g imps fs k A A2 c c2 hlen hfl hk1 (blk_lt GA2.out) X1.out (Kd.C_below hI.out hB2.out) X2.out (Kd.C_below hF.out hB2.out)); rw [← hP.out] at XP; clear X1 X2 hggt hb hA GA)
        | (go_at_call 51; (with_reducible refine XP.out.mono ?_); rintro e w3 ⟨rfl, hb⟩; have hgt := Aside0.mk (show gt < w3.heap.size from Nat.lt_of_lt_of_le (blk_lt GT.out) hb.size); have GA3 := Aside0.mk (blk_below GA2.out hb); have GT3 := Aside0.mk (blk_below GT.out hb); have x0 : w3.cell? ⟨g, 0, none⟩ = some (.slice A0 ts.length c0) := blk_cell GA3.out 0; clear XP; have hB3 := Aside0.mk (below_step hB2.out hb); clear hb GA2 GT)
        | ((with_reducible refine gate_store (p := 4) rfl ?_); refine storeRow_event (g := gt) rfl rfl rfl (cs := #[.slice none 0 0, .slice none 0 0]) rfl rfl GT3.out (by kernel_rfl) rfl (by simp [Value.oneCell']) ?_; intro w5 hA hb ho hs; have z0 : w5.cell? ⟨gt, 0, none⟩ = some (.slice none 0 0) := blk_cell hA 0; have z1 : w5.cell? ⟨gt, 1, none⟩ = some (.slice none 0 0) := blk_cell hA 1; have hB5 := Aside0.mk (hb _ _ (show w.heap.size ≤ gt by have := hB.out.size; have := hgl.out; omega) hB3.out); clear hA hb ho hs))
    all_goals first
      | (have := HBAD.out; omega)
      | exact bodyPost_ret (v := .tuple #[.agg #[.slice none 0 0, .slice none 0 0], .int .i64 1701]) (by simp [results, Try.f26, go_sem, z0, z1]) rfl ⟨_, _, rfl, Kd.R_nil _ _ _ _ _, Kd.R_nil _ _ _ _ _, .inl rfl, hB5.out⟩
      | trace_state
  · have hfo : funcOf imps ts fs k = (((rd_T36 ts P).f0, (rd_T36 ts P).f1), 0) := by unfold funcOf; rw [← hP.out, if_neg hbad]
    rw [hfo]
    have b1 : ¬ k < 0 := fun h => hbad (.inl h)
    have b2 : 0 ≤ P := Int.not_lt.1 fun h => hbad (.inr (.inl h))
    have b3 : P < ts.length := Int.not_le.1 fun h => hbad (.inr (.inr h))
    have d1 : decide (k < 0) = false := decide_eq_false b1
    have d2 : decide (P < 0) = false := decide_eq_false (Int.not_lt.2 b2)
    have d3 : decide ((ts.length : Int) ≤ P) = false := decide_eq_false (Int.not_le.2 b3)
    obtain ⟨ad, At, ct, Bt, dt, e, p0, p1, ht1, h0, ht3, h2⟩ := at_T36 hT.out P b2 b3
    have ht0 := Aside0.mk h0
    have ht2 := Aside0.mk h2
    have q0 := Aside0.mk p0
    have q1 := Aside0.mk p1
    have hcl : ftype_Clone.f 0 (rd_T36 ts P).f0 (rd_T36 ts P).f1 = some ((rd_T36 ts P).f0, (rd_T36 ts P).f1) := by
      unfold ftype_Clone.f slices_Clone_int_int.f
      rw [if_pos (hsz P).1, Option.bind_some, if_pos (hsz P).2, Option.bind_some]
    subst e
    clear hbad hfo hsz h0 h2 p0 p1
    go_enter Try.func26, Try.ntmps26
    go_wp2_with (first
        | ((with_reducible refine gate_dst (N := 2) rfl ?_); refine box_event ?hg (N := 2) ?hd (cs := #[.slice (some ad) ts.length c0, .slice A imps.length c, .slice A2 fs.length c2, .slice A3 n3 c3, .slice A4 n4 c4, .slice A5 n5 c5, .slice A6 n6 c6, .int .i64 st, .slice A8 n8 c8, .slice A9 n9 c9, .slice A10 n10 c10]) (t := 69) ?hr ?_; (case hd => rfl); (case hg => rfl); (case hr => first | (go_simp; done) | (go_simp; rfl)); intro g hgg w1 hA hb; have hB := Aside0.mk hb; have GA := Aside0.mk hA; have hlt := Aside0.mk (show w.heap.size ≤ g by rw [hgg]; exact Nat.le_refl _); clear hgg hb hA)
        | ((with_reducible refine gate_dst (N := 4) rfl ?_); refine box_event ?hg (N := 4) ?hd (cs := #[.slice none 0 0, .slice none 0 0]) (t := 36) ?hr ?_; (case hd => rfl); (case hg => rfl); (case hr => first | (go_simp; done) | (go_simp; rfl)); intro gt hggt w2 hA hb; have hgl := Aside0.mk (show w1.heap.size ≤ gt by rw [hggt]; exact Nat.le_refl _); have hne := Aside0.mk (show g ≠ gt by rw [hggt]; exact Nat.ne_of_lt (blk_lt GA.out)); have hB2 := Aside0.mk (below_step hB.out hb); have GA2 := Aside0.mk (blk_below GA.out hb); have GT := Aside0.mk hA; have X1 := Aside0.mk (show w2.cell? ⟨g, 1, none⟩ = some (.slice A imps.length c) from blk_cell GA2.out 1); have X2 := Aside0.mk (show w2.cell? ⟨g, 2, none⟩ = some (.slice A2 fs.length c2) from blk_cell GA2.out 2); have XP := Aside0.mk (place_calls _ g imps fs k A A2 c c2 hlen hfl hk1 (blk_lt GA2.out) X1.out (Kd.C_below hI.out hB2.out) X2.out (Kd.C_below hF.out hB2.out)); rw [← hP.out] at XP; clear X1 X2 hggt hb hA GA)
        | (go_at_call 51; (with_reducible refine XP.out.mono ?_); rintro e w3 ⟨rfl, hb⟩; have hgt := Aside0.mk (show gt < w3.heap.size from Nat.lt_of_lt_of_le (blk_lt GT.out) hb.size); have GA3 := Aside0.mk (blk_below GA2.out hb); have GT3 := Aside0.mk (blk_below GT.out hb); have x0 : w3.cell? ⟨g, 0, none⟩ = some (.slice (some ad) ts.length c0) := blk_cell GA3.out 0; clear XP; have hB3 := Aside0.mk (below_step hB2.out hb); have y0 := pw_cell_below hB3.out q0.out; have y1 := pw_cell_below hB3.out q1.out; clear hb GA2 GT)
        | (go_at_call 52; (with_reducible refine (ftype_Clone.calls 0 At ct _ Bt dt _ _ _ _ (Kd.C_below ht0.out hB3.out) ht1 (Kd.C_below ht2.out hB3.out) ht3 hcl).mono ?_); rintro e w4 ⟨v0, v1, rfl, hR0, hR1, hb⟩; have r0 := Aside0.mk hR0; have r1 := Aside0.mk hR1; have hB4 := Aside0.mk (below_step hB3.out hb); have GT4 := Aside0.mk (blk_below GT3.out hb); obtain ⟨Av, cv, rfl⟩ := Kd.R_slice hR0; obtain ⟨Bv, dv, rfl⟩ := Kd.R_slice hR1; clear hR0 hR1 hb)
        | ((with_reducible refine gate_store (p := 4) rfl ?_); refine storeRow_event (g := gt) rfl rfl rfl (cs := #[.slice Av (rd_T36 ts P).f0.length cv, .slice Bv (rd_T36 ts P).f1.length dv]) rfl rfl GT4.out (by kernel_rfl) rfl (by simp [Value.oneCell']) ?_; intro w5 hA hb ho hs; have GT5 := Aside0.mk hA; have z0 : w5.cell? ⟨gt, 0, none⟩ = some (.slice Av (rd_T36 ts P).f0.length cv) := blk_cell hA 0; have z1 : w5.cell? ⟨gt, 1, none⟩ = some (.slice Bv (rd_T36 ts P).f1.length dv) := blk_cell hA 1; have s0 := Aside0.mk (Kd.R_step (Kd.R_bound r0.out) (fun k hk _ => ho k (by have := hk.2.1; have := hgt.out; omega))); have s1 := Aside0.mk (Kd.R_step (Kd.R_bound r1.out) (fun k hk _ => ho k (by have := hk.2.1; have := hgt.out; omega))); have hB5 := Aside0.mk (hb _ _ (show w.heap.size ≤ gt by have := hB.out.size; have := hgl.out; omega) hB4.out); clear hA hb ho hs))
    refine bodyPost_ret (v := .tuple #[.agg #[.slice Av (rd_T36 ts P).f0.length cv, .slice Bv (rd_T36 ts P).f1.length dv], .int .i64 0]) (by simp [results, Try.f26, go_sem, z0, z1]) rfl ?_
    refine ⟨_, _, rfl, Kd.R_mono (Kd.R_lower s0.out (by have := hB4.out.size; have := hB3.out.size; omega)) (fun _ _ => trivial), Kd.R_mono (Kd.R_lower s1.out (by have := hB4.out.size; have := hB3.out.size; omega)) (fun _ _ => trivial), ?_, hB5.out⟩
    rcases hv : (Value.slice Av (rd_T36 ts P).f0.length cv).ownBlock with _ | kk
    · exact .inl rfl
    · exact .inr fun e => (s0.out.1 kk hv).1 e
set_option maxRecDepth 100000 in
set_option maxHeartbeats 8000000 in
theorem counts_calls (w : World) (imps : List S90) (A0 A A2 A3 A4 A5 A6 A8 A9 A10 : Option Addr) (n0 n2 n3 n4 n5 n6 n8 n9 n10 c0 c c2 c3 c4 c5 c6 c8 c9 c10 : Nat) (st : Int) (hlen : imps.length ≤ 140737488351232) (hI : k90.C w A imps.length imps) :
    Calls Try.prog 30 #[.agg #[.slice A0 n0 c0, .slice A imps.length c, .slice A2 n2 c2, .slice A3 n3 c3, .slice A4 n4 c4, .slice A5 n5 c5, .slice A6 n6 c6, .int .i64 st, .slice A8 n8 c8, .slice A9 n9 c9, .slice A10 n10 c10]] w fun e w' => e = .returned (.tuple #[.int .i64 (wrap64 ((cnt imps 0 imps.length : Int) + n2)), .int .i64 (wrap64 ((cnt imps 1 imps.length : Int) + n3)), .int .i64 (wrap64 ((cnt imps 2 imps.length : Int) + n4)), .int .i64 (wrap64 ((cnt imps 3 imps.length : Int) + n5))]) ∧ Below w.heap.size w w' := by
  replace hI := Aside0.mk hI
  go_enter Try.func30, Try.ntmps30
  go_wp2_with (first
    | ((with_reducible refine gate_dst (N := 1) rfl ?_); refine box_event ?hg (N := 1) ?hd (cs := #[.slice A0 n0 c0, .slice A imps.length c, .slice A2 n2 c2, .slice A3 n3 c3, .slice A4 n4 c4, .slice A5 n5 c5, .slice A6 n6 c6, .int .i64 st, .slice A8 n8 c8, .slice A9 n9 c9, .slice A10 n10 c10]) (t := 69) ?hr ?_; (case hd => rfl); (case hg => rfl); (case hr => first | (go_simp; done) | (go_simp; rfl)); intro g hgg w1 hA hb; have hB := Aside0.mk hb; have M : Aside0 (∀ W K, Below w1.heap.size w1 W → Calls Try.prog 55 #[.pointer (some ⟨g, 0, none⟩), .int .i64 K] W fun e w' => e = .returned (.int .i64 (cnt imps K imps.length : Int)) ∧ Below W.heap.size W w') := ⟨fun W K hW => many_calls W g imps K A c hlen (Nat.lt_of_lt_of_le (blk_lt hA) hW.size) (pw_cell_below hW (show w1.cell? ⟨g, 1, none⟩ = some (.slice A imps.length c) from blk_cell hA 1)) (Kd.C_below hI.out (below_step hb hW))⟩; have z2 : w1.cell? ⟨g, 2, none⟩ = some (.slice A2 n2 c2) := blk_cell hA 2; have z3 : w1.cell? ⟨g, 3, none⟩ = some (.slice A3 n3 c3) := blk_cell hA 3; have z4 : w1.cell? ⟨g, 4, none⟩ = some (.slice A4 n4 c4) := blk_cell hA 4; have z5 : w1.cell? ⟨g, 5, none⟩ = some (.slice A5 n5 c5) := blk_cell hA 5; clear hgg hA hb))
  refine start_ (n := 24) (S := fun w' => w'.cell? ⟨g, 2, none⟩ = some (.slice A2 n2 c2) ∧ w'.cell? ⟨g, 3, none⟩ = some (.slice A3 n3 c3) ∧ w'.cell? ⟨g, 4, none⟩ = some (.slice A4 n4 c4) ∧ w'.cell? ⟨g, 5, none⟩ = some (.slice A5 n5 c5)) (ds := []) #[false, false, false, false, false, false, false, false, false, false, false, false, false, false, false, false, false, false, false, false, false, false, false, false] (by kernel_rfl) rfl rfl ⟨z2, z3, z4, z5⟩ (fun hHeld => ?_)
  refine pure_ (i := 1) (N := some 7) (v := ?_) (a' := ?_) #[false, true, false, false, false, false, false, false, false, false, false, false, false, false, false, false, false, false, false, false, false, false, false, false] rfl rfl (by kernel_rfl) (fun _ _ _ h => h) (Or.inl ⟨by rfl, ?_⟩) ?_ ?_
  rotate_left
  · intro w'
    go_simp
    with_reducible rfl
  rotate_left
  · simp only [Act.put, List.setIfInBounds_toArray, List.set_cons_zero, List.set_cons_succ, i64_w, i32_w]
    rfl
  refine pure_ (i := 6) (N := some 12) (v := ?_) (a' := ?_) #[false, true, false, false, false, false, true, false, false, false, false, false, false, false, false, false, false, false, false, false, false, false, false, false] rfl rfl (by kernel_rfl) (fun _ _ _ h => h) (Or.inl ⟨by rfl, ?_⟩) ?_ ?_
  rotate_left
  · intro w'
    go_simp
    with_reducible rfl
  rotate_left
  · simp only [Act.put, List.setIfInBounds_toArray, List.set_cons_zero, List.set_cons_succ, i64_w, i32_w]
    rfl
  refine pure_ (i := 11) (N := some 17) (v := ?_) (a' := ?_) #[false, true, false, false, false, false, true, false, false, false, false, true, false, false, false, false, false, false, false, false, false, false, false, false] rfl rfl (by kernel_rfl) (fun _ _ _ h => h) (Or.inl ⟨by rfl, ?_⟩) ?_ ?_
  rotate_left
  · intro w'
    go_simp
    with_reducible rfl
  rotate_left
  · simp only [Act.put, List.setIfInBounds_toArray, List.set_cons_zero, List.set_cons_succ, i64_w, i32_w]
    rfl
  refine pure_ (i := 16) (N := some 22) (v := ?_) (a' := ?_) #[false, true, false, false, false, false, true, false, false, false, false, true, false, false, false, false, true, false, false, false, false, false, false, false] rfl rfl (by kernel_rfl) (fun _ _ _ h => h) (Or.inl ⟨by rfl, ?_⟩) ?_ ?_
  rotate_left
  · intro w'
    go_simp
    with_reducible rfl
  rotate_left
  · simp only [Act.put, List.setIfInBounds_toArray, List.set_cons_zero, List.set_cons_succ, i64_w, i32_w]
    rfl
  refine take_ (i := 2) (N := some 8) (v := ?_) (a' := ?_) #[false, true, true, false, false, false, true, false, false, false, false, true, false, false, false, false, true, false, false, false, false, false, false, false] rfl rfl (by kernel_rfl) (fun _ _ _ h => h) (Or.inl ⟨by rfl, ?_⟩) hHeld ?_ ?_
  rotate_left
  · rintro w' ⟨s0, s1, s2, s3⟩
    go_simp
    with_reducible rfl
  rotate_left
  · simp only [Act.put, List.setIfInBounds_toArray, List.set_cons_zero, List.set_cons_succ, i64_w, i32_w]
    rfl
  refine pure_ (i := 3) (N := some 9) (v := ?_) (a' := ?_) #[false, true, true, true, false, false, true, false, false, false, false, true, false, false, false, false, true, false, false, false, false, false, false, false] rfl rfl (by kernel_rfl) (fun _ _ _ h => h) (Or.inl ⟨by rfl, ?_⟩) ?_ ?_
  rotate_left
  · intro w'
    go_simp
    with_reducible rfl
  rotate_left
  · simp only [Act.put, List.setIfInBounds_toArray, List.set_cons_zero, List.set_cons_succ, i64_w, i32_w]
    rfl
  refine take_ (i := 7) (N := some 13) (v := ?_) (a' := ?_) #[false, true, true, true, false, false, true, true, false, false, false, true, false, false, false, false, true, false, false, false, false, false, false, false] rfl rfl (by kernel_rfl) (fun _ _ _ h => h) (Or.inl ⟨by rfl, ?_⟩) hHeld ?_ ?_
  rotate_left
  · rintro w' ⟨s0, s1, s2, s3⟩
    go_simp
    with_reducible rfl
  rotate_left
  · simp only [Act.put, List.setIfInBounds_toArray, List.set_cons_zero, List.set_cons_succ, i64_w, i32_w]
    rfl
  refine pure_ (i := 8) (N := some 14) (v := ?_) (a' := ?_) #[false, true, true, true, false, false, true, true, true, false, false, true, false, false, false, false, true, false, false, false, false, false, false, false] rfl rfl (by kernel_rfl) (fun _ _ _ h => h) (Or.inl ⟨by rfl, ?_⟩) ?_ ?_
  rotate_left
  · intro w'
    go_simp
    with_reducible rfl
  rotate_left
  · simp only [Act.put, List.setIfInBounds_toArray, List.set_cons_zero, List.set_cons_succ, i64_w, i32_w]
    rfl
  refine take_ (i := 12) (N := some 18) (v := ?_) (a' := ?_) #[false, true, true, true, false, false, true, true, true, false, false, true, true, false, false, false, true, false, false, false, false, false, false, false] rfl rfl (by kernel_rfl) (fun _ _ _ h => h) (Or.inl ⟨by rfl, ?_⟩) hHeld ?_ ?_
  rotate_left
  · rintro w' ⟨s0, s1, s2, s3⟩
    go_simp
    with_reducible rfl
  rotate_left
  · simp only [Act.put, List.setIfInBounds_toArray, List.set_cons_zero, List.set_cons_succ, i64_w, i32_w]
    rfl
  refine pure_ (i := 13) (N := some 19) (v := ?_) (a' := ?_) #[false, true, true, true, false, false, true, true, true, false, false, true, true, true, false, false, true, false, false, false, false, false, false, false] rfl rfl (by kernel_rfl) (fun _ _ _ h => h) (Or.inl ⟨by rfl, ?_⟩) ?_ ?_
  rotate_left
  · intro w'
    go_simp
    with_reducible rfl
  rotate_left
  · simp only [Act.put, List.setIfInBounds_toArray, List.set_cons_zero, List.set_cons_succ, i64_w, i32_w]
    rfl
  refine take_ (i := 17) (N := some 23) (v := ?_) (a' := ?_) #[false, true, true, true, false, false, true, true, true, false, false, true, true, true, false, false, true, true, false, false, false, false, false, false] rfl rfl (by kernel_rfl) (fun _ _ _ h => h) (Or.inl ⟨by rfl, ?_⟩) hHeld ?_ ?_
  rotate_left
  · rintro w' ⟨s0, s1, s2, s3⟩
    go_simp
    with_reducible rfl
  rotate_left
  · simp only [Act.put, List.setIfInBounds_toArray, List.set_cons_zero, List.set_cons_succ, i64_w, i32_w]
    rfl
  refine pure_ (i := 18) (N := some 24) (v := ?_) (a' := ?_) #[false, true, true, true, false, false, true, true, true, false, false, true, true, true, false, false, true, true, true, false, false, false, false, false] rfl rfl (by kernel_rfl) (fun _ _ _ h => h) (Or.inl ⟨by rfl, ?_⟩) ?_ ?_
  rotate_left
  · intro w'
    go_simp
    with_reducible rfl
  rotate_left
  · simp only [Act.put, List.setIfInBounds_toArray, List.set_cons_zero, List.set_cons_succ, i64_w, i32_w]
    rfl
  refine one_ (i := 0) (N := some 6) #[true, true, true, true, false, false, true, true, true, false, false, true, true, true, false, false, true, true, true, false, false, false, false, false] rfl rfl (by kernel_rfl) (by decide) (fun K hK => ?_)
  refine goes_ Try.func55 (by kernel_rfl) rfl #[.pointer (some ⟨g, 0, none⟩), .int .i64 0] (by rfl) rfl rfl (by simp only [List.map_toArray, List.map_cons, List.map_nil]; rfl) ?_
  with_reducible refine (M.out _ 0 (below_drew (Below.refl _ _))).mono ?_
  rintro e w2 ⟨rfl, hb⟩
  refine ⟨_, rfl, ?_⟩
  have HB2 : Aside0 (Below w1.heap.size w1 w2) := ⟨below_step (below_drew (Below.refl _ _)) hb⟩
  clear hb
  refine hK.out _ _ ⟨pw_cell_below HB2.out z2, pw_cell_below HB2.out z3, pw_cell_below HB2.out z4, pw_cell_below HB2.out z5⟩ (fun hHeld => ?_)
  clear hK K
  refine norm_ (a' := ?_) ?_ ?_
  rotate_left
  · show Act.put _ (some 6) _ = _
    simp only [Act.put, List.setIfInBounds_toArray, List.set_cons_zero, List.set_cons_succ, i64_w, i32_w]
    rfl
  refine pure_ (i := 4) (N := some 10) (v := ?_) (a' := ?_) #[true, true, true, true, true, false, true, true, true, false, false, true, true, true, false, false, true, true, true, false, false, false, false, false] rfl rfl (by kernel_rfl) (fun _ _ _ h => h) (Or.inl ⟨by rfl, ?_⟩) ?_ ?_
  rotate_left
  · intro w'
    go_simp
    with_reducible rfl
  rotate_left
  · simp only [Act.put, List.setIfInBounds_toArray, List.set_cons_zero, List.set_cons_succ, i64_w, i32_w]
    rfl
  refine one_ (i := 5) (N := some 11) #[true, true, true, true, true, true, true, true, true, false, false, true, true, true, false, false, true, true, true, false, false, false, false, false] rfl rfl (by kernel_rfl) (by decide) (fun K hK => ?_)
  refine goes_ Try.func55 (by kernel_rfl) rfl #[.pointer (some ⟨g, 0, none⟩), .int .i64 1] (by rfl) rfl rfl (by simp only [List.map_toArray, List.map_cons, List.map_nil]; rfl) ?_
  with_reducible refine (M.out _ 1 (HB2.out)).mono ?_
  rintro e w3 ⟨rfl, hb⟩
  refine ⟨_, rfl, ?_⟩
  have HB3 : Aside0 (Below w1.heap.size w1 w3) := ⟨below_step (HB2.out) hb⟩
  clear hb
  refine hK.out _ _ ⟨pw_cell_below HB3.out z2, pw_cell_below HB3.out z3, pw_cell_below HB3.out z4, pw_cell_below HB3.out z5⟩ (fun hHeld => ?_)
  clear hK K
  refine norm_ (a' := ?_) ?_ ?_
  rotate_left
  · show Act.put _ (some 11) _ = _
    simp only [Act.put, List.setIfInBounds_toArray, List.set_cons_zero, List.set_cons_succ, i64_w, i32_w]
    rfl
  refine pure_ (i := 9) (N := some 15) (v := ?_) (a' := ?_) #[true, true, true, true, true, true, true, true, true, true, false, true, true, true, false, false, true, true, true, false, false, false, false, false] rfl rfl (by kernel_rfl) (fun _ _ _ h => h) (Or.inl ⟨by rfl, ?_⟩) ?_ ?_
  rotate_left
  · intro w'
    go_simp
    with_reducible rfl
  rotate_left
  · simp only [Act.put, List.setIfInBounds_toArray, List.set_cons_zero, List.set_cons_succ, i64_w, i32_w]
    rfl
  refine one_ (i := 10) (N := some 16) #[true, true, true, true, true, true, true, true, true, true, true, true, true, true, false, false, true, true, true, false, false, false, false, false] rfl rfl (by kernel_rfl) (by decide) (fun K hK => ?_)
  refine goes_ Try.func55 (by kernel_rfl) rfl #[.pointer (some ⟨g, 0, none⟩), .int .i64 2] (by rfl) rfl rfl (by simp only [List.map_toArray, List.map_cons, List.map_nil]; rfl) ?_
  with_reducible refine (M.out _ 2 (HB3.out)).mono ?_
  rintro e w4 ⟨rfl, hb⟩
  refine ⟨_, rfl, ?_⟩
  have HB4 : Aside0 (Below w1.heap.size w1 w4) := ⟨below_step (HB3.out) hb⟩
  clear hb
  refine hK.out _ _ ⟨pw_cell_below HB4.out z2, pw_cell_below HB4.out z3, pw_cell_below HB4.out z4, pw_cell_below HB4.out z5⟩ (fun hHeld => ?_)
  clear hK K
  refine norm_ (a' := ?_) ?_ ?_
  rotate_left
  · show Act.put _ (some 16) _ = _
    simp only [Act.put, List.setIfInBounds_toArray, List.set_cons_zero, List.set_cons_succ, i64_w, i32_w]
    rfl
  refine pure_ (i := 14) (N := some 20) (v := ?_) (a' := ?_) #[true, true, true, true, true, true, true, true, true, true, true, true, true, true, true, false, true, true, true, false, false, false, false, false] rfl rfl (by kernel_rfl) (fun _ _ _ h => h) (Or.inl ⟨by rfl, ?_⟩) ?_ ?_
  rotate_left
  · intro w'
    go_simp
    with_reducible rfl
  rotate_left
  · simp only [Act.put, List.setIfInBounds_toArray, List.set_cons_zero, List.set_cons_succ, i64_w, i32_w]
    rfl
  refine one_ (i := 15) (N := some 21) #[true, true, true, true, true, true, true, true, true, true, true, true, true, true, true, true, true, true, true, false, false, false, false, false] rfl rfl (by kernel_rfl) (by decide) (fun K hK => ?_)
  refine goes_ Try.func55 (by kernel_rfl) rfl #[.pointer (some ⟨g, 0, none⟩), .int .i64 3] (by rfl) rfl rfl (by simp only [List.map_toArray, List.map_cons, List.map_nil]; rfl) ?_
  with_reducible refine (M.out _ 3 (HB4.out)).mono ?_
  rintro e w5 ⟨rfl, hb⟩
  refine ⟨_, rfl, ?_⟩
  have HB5 : Aside0 (Below w1.heap.size w1 w5) := ⟨below_step (HB4.out) hb⟩
  clear hb
  refine hK.out _ _ ⟨pw_cell_below HB5.out z2, pw_cell_below HB5.out z3, pw_cell_below HB5.out z4, pw_cell_below HB5.out z5⟩ (fun hHeld => ?_)
  clear hK K
  refine norm_ (a' := ?_) ?_ ?_
  rotate_left
  · show Act.put _ (some 21) _ = _
    simp only [Act.put, List.setIfInBounds_toArray, List.set_cons_zero, List.set_cons_succ, i64_w, i32_w]
    rfl
  refine pure_ (i := 19) (N := some 25) (v := ?_) (a' := ?_) #[true, true, true, true, true, true, true, true, true, true, true, true, true, true, true, true, true, true, true, true, false, false, false, false] rfl rfl (by kernel_rfl) (fun _ _ _ h => h) (Or.inl ⟨by rfl, ?_⟩) ?_ ?_
  rotate_left
  · intro w'
    go_simp
    with_reducible rfl
  rotate_left
  · simp only [Act.put, List.setIfInBounds_toArray, List.set_cons_zero, List.set_cons_succ, i64_w, i32_w]
    rfl
  refine pure_ (i := 20) (N := some 2) (v := ?_) (a' := ?_) #[true, true, true, true, true, true, true, true, true, true, true, true, true, true, true, true, true, true, true, true, true, false, false, false] rfl rfl (by kernel_rfl) (fun _ _ _ h => h) (Or.inl ⟨by rfl, ?_⟩) ?_ ?_
  rotate_left
  · intro w'
    go_simp
    with_reducible rfl
  rotate_left
  · simp only [Act.put, List.setIfInBounds_toArray, List.set_cons_zero, List.set_cons_succ, i64_w, i32_w]
    rfl
  refine pure_ (i := 21) (N := some 3) (v := ?_) (a' := ?_) #[true, true, true, true, true, true, true, true, true, true, true, true, true, true, true, true, true, true, true, true, true, true, false, false] rfl rfl (by kernel_rfl) (fun _ _ _ h => h) (Or.inl ⟨by rfl, ?_⟩) ?_ ?_
  rotate_left
  · intro w'
    go_simp
    with_reducible rfl
  rotate_left
  · simp only [Act.put, List.setIfInBounds_toArray, List.set_cons_zero, List.set_cons_succ, i64_w, i32_w]
    rfl
  refine pure_ (i := 22) (N := some 4) (v := ?_) (a' := ?_) #[true, true, true, true, true, true, true, true, true, true, true, true, true, true, true, true, true, true, true, true, true, true, true, false] rfl rfl (by kernel_rfl) (fun _ _ _ h => h) (Or.inl ⟨by rfl, ?_⟩) ?_ ?_
  rotate_left
  · intro w'
    go_simp
    with_reducible rfl
  rotate_left
  · simp only [Act.put, List.setIfInBounds_toArray, List.set_cons_zero, List.set_cons_succ, i64_w, i32_w]
    rfl
  refine pure_ (i := 23) (N := some 5) (v := ?_) (a' := ?_) #[true, true, true, true, true, true, true, true, true, true, true, true, true, true, true, true, true, true, true, true, true, true, true, true] rfl rfl (by kernel_rfl) (fun _ _ _ h => h) (Or.inl ⟨by rfl, ?_⟩) ?_ ?_
  rotate_left
  · intro w'
    go_simp
    with_reducible rfl
  rotate_left
  · simp only [Act.put, List.setIfInBounds_toArray, List.set_cons_zero, List.set_cons_succ, i64_w, i32_w]
    rfl
  refine done_ (by kernel_rfl) ?_


  try go_wp2
  exact bodyPost_ret (v := .tuple #[.int .i64 (wrap64 ((cnt imps 0 imps.length : Int) + n2)), .int .i64 (wrap64 ((cnt imps 1 imps.length : Int) + n3)), .int .i64 (wrap64 ((cnt imps 2 imps.length : Int) + n4)), .int .i64 (wrap64 ((cnt imps 3 imps.length : Int) + n5))]) (by simp [results, Try.f30, go_sem]) rfl ⟨rfl, below_step hB.out HB5.out⟩

end Go.Proofs.Ytmofdpkddimmlaa.EFty
