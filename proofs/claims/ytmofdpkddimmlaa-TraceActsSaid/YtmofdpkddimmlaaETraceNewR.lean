/-
  The contract of the reference's NewHost.
-/
import Derived.Test.YtmofdpkddimmlaaETraceRef
namespace Go.Proofs.Ytmofdpkddimmlaa.ETrace
open Go Go.RowKit Go.Proofs.Ytmofdpkddimmlaa.F Go.Proofs.Ytmofdpkddimmlaa.PureVals Go.Proofs.YtmofdpkddimmlaaW.Hand Go.Proofs.YtmofdpkddimmlaaW.PrintWords Go.Proofs.YtmofdpkddimmlaaW.PrintLast Go.Proofs.YtmofdpkddimmlaaW.PrintMore
set_option linter.unusedVariables false
set_option linter.unusedSimpArgs false
def RelNewR (w : World) (g : Nat) (an : List (List S56)) (n : Nat) (v4 : Value) (wr : World) : Prop := ∃ (i : Nat) (A : Option Addr) (c : Nat), i + n = an.length ∧ v4 = .int .i64 i ∧ i ≤ an.length ∧ wr.heap[g]? = some (.cells #[.slice A i c, .slice none 0 0] 48 (0, 0)) ∧ Kd.N k27 27 wr 0 (fun k => w.heap.size ≤ k ∧ k ≠ g) (.slice A i c) (an.take i) ∧ Below w.heap.size w wr
set_option maxHeartbeats 4000000 in
set_option maxRecDepth 100000 in
theorem newR_calls {w : World} {A : Option Addr} {c : Nat} {an : List (List S56)} (h : k27.C w A an.length an) (hlen : an.length * 24 ≤ 140737488351232) (hargs : ∀ x, x ∈ an → x.length * 16 ≤ 140737488351232) :
    Calls Try.prog 14 #[.slice A an.length c] w fun e w' => ∃ g, e = .returned (.pointer (some ⟨g, 0, none⟩)) ∧ Rs w' g (fun k => w.heap.size ≤ k) an [] ∧ Below w.heap.size w w' := by
  have hu27 := Try.underlying27
  have hu22 := Try.underlying22
  have hu24 := Try.underlying24
  have hu48 := Try.underlying48
  have HA := Aside0.mk h
  have HL := Aside0.mk hlen
  have HAR := Aside0.mk hargs
  have hm : an.length ≤ 9223372036854775807 := by omega
  clear h hlen hargs
  go_enter Try.func14, Try.ntmps14
  go_wp2_with (first
    | ((with_reducible refine gate_dst (N := 6) rfl ?_); refine box_event ?hg (N := 6) ?hd (cs := #[.slice none 0 0, .slice none 0 0]) (t := 48) ?hr ?_; (case hd => rfl); (case hg => rfl); (case hr => first | (go_simp; done) | (go_simp; rfl)); intro g hgg w1 hA hb; have HG := Aside0.mk hA; have HB := Aside0.mk hb; have GG := Aside0.mk hgg; clear hA hb hgg))
  go_loopg [4] an.length (fun n v4 wr => RelNewR w g an n v4 wr)
  case atStart => exact ⟨0, none, 0, by omega, rfl, by omega, by first | exact HG.out | exact blk_below HG.out (below_drew (Below.refl _ _)), Kd.N_nil _ _ _ _ _, by first | exact HB.out | exact below_drew HB.out⟩
  case round =>
    obtain ⟨i, A3, c3, hi, rfl, hil, hg, hN3, hb⟩ := hrel
    have HG3 := Aside0.mk hg
    have R3 := Aside0.mk hN3
    have HB3 := Aside0.mk hb
    have I3 := Aside0.mk hi
    clear hg hN3 hb hi hil
    by_cases hlt : i < an.length
    · obtain ⟨ad, B, cb, rfl, e1, hcb, hCx⟩ := answer_at HA.out i hlt
      have dl : decide (i < an.length) = true := by simpa using hlt
      have HLT := Aside0.mk hlt
      have CX := Aside0.mk hCx
      have z1 : wr.cell? (ad.add i) = some (.slice B (rdA an i).length cb) := pw_cell_below HB3.out e1
      have q2 : wr.cell? ⟨g, 0, none⟩ = some (.slice A3 i c3) := blk_cell HG3.out 0
      have hgw : Aside0 (w.heap.size ≤ g) := ⟨by rw [GG.out]; exact Nat.le_refl _⟩
      have GLT := Aside0.mk (blk_lt HG3.out)
      have ngx : Aside0 (some g ≠ (Value.slice A3 i c3).ownBlock) := ⟨fun e => (R3.out.1 g e.symm).2 rfl⟩
      have HAD : Aside0 ((ad.add i).block < w.heap.size) := ⟨World.block_lt_of_cell? _ _ e1⟩
      clear e1 hcb hCx
      have OKN : Aside0 (∀ k, wr.drew.heap.size ≤ k → (w.heap.size ≤ k ∧ k ≠ g) ∧ some k ≠ (Value.slice A3 i c3).ownBlock) := ⟨fun k hk => by
        have h3 := (show wr.heap.size ≤ k from hk)
        exact ⟨⟨Nat.le_trans HB3.out.size h3, fun e => by have := GLT.out; omega⟩, fun e => by have := Kd.N_lt R3.out k e.symm; omega⟩⟩
      have HNE : Aside0 (some (ad.add i).block ≠ (Value.slice A3 i c3).ownBlock) := ⟨fun e => by have h1 := (R3.out.1 _ e.symm).1; have h2 := HAD.out; omega⟩
      go_wp2_with fail
      refine start_ (n := 18) (S := fun w' => w'.cell? ⟨g, 0, none⟩ = some (.slice A3 i c3) ∧ w'.cell? (ad.add i) = some (.slice B (rdA an i).length cb)) (ds := [17]) #[false, false, false, false, false, false, false, false, false, false, false, false, false, false, false, false, false, false] (by kernel_rfl) rfl rfl ⟨q2, z1⟩ (fun hHeld => ?_)
      refine pure_ (i := 0) (N := some 13) (v := ?_) (a' := ?_) #[true, false, false, false, false, false, false, false, false, false, false, false, false, false, false, false, false, false] rfl rfl (by kernel_rfl) (fun _ _ _ h => h) (Or.inl ⟨by rfl, ?_⟩) ?_ ?_
      rotate_left
      · intro w'
        go_simp
        with_reducible rfl
      rotate_left
      · simp only [Act.put, List.setIfInBounds_toArray, List.set_cons_zero, List.set_cons_succ, i64_w, i32_w]
        rfl
      refine pure_ (i := 1) (N := some 14) (v := ?_) (a' := ?_) #[true, true, false, false, false, false, false, false, false, false, false, false, false, false, false, false, false, false] rfl rfl (by kernel_rfl) (fun _ _ _ h => h) (Or.inl ⟨by rfl, ?_⟩) ?_ ?_
      rotate_left
      · intro w'
        go_simp
        with_reducible rfl
      rotate_left
      · simp only [Act.put, List.setIfInBounds_toArray, List.set_cons_zero, List.set_cons_succ, i64_w, i32_w]
        rfl
      refine pure_ (i := 2) (N := some 15) (v := ?_) (a' := ?_) #[true, true, true, false, false, false, false, false, false, false, false, false, false, false, false, false, false, false] rfl rfl (by kernel_rfl) (fun _ _ _ h => h) (Or.inl ⟨by rfl, ?_⟩) ?_ ?_
      rotate_left
      · intro w'
        go_simp
        with_reducible rfl
      rotate_left
      · simp only [Act.put, List.setIfInBounds_toArray, List.set_cons_zero, List.set_cons_succ, i64_w, i32_w]
        rfl
      refine pure_ (i := 3) (N := some 16) (v := ?_) (a' := ?_) #[true, true, true, true, false, false, false, false, false, false, false, false, false, false, false, false, false, false] rfl rfl (by kernel_rfl) (fun _ _ _ h => h) (Or.inl ⟨by rfl, ?_⟩) ?_ ?_
      rotate_left
      · intro w'
        go_simp
        with_reducible rfl
      rotate_left
      · simp only [Act.put, List.setIfInBounds_toArray, List.set_cons_zero, List.set_cons_succ, i64_w, i32_w]
        rfl
      refine pure_ (i := 6) (N := some 19) (v := ?_) (a' := ?_) #[true, true, true, true, false, false, true, false, false, false, false, false, false, false, false, false, false, false] rfl rfl (by kernel_rfl) (fun _ _ _ h => h) (Or.inl ⟨by rfl, ?_⟩) ?_ ?_
      rotate_left
      · intro w'
        go_simp
        with_reducible rfl
      rotate_left
      · simp only [Act.put, List.setIfInBounds_toArray, List.set_cons_zero, List.set_cons_succ, i64_w, i32_w]
        rfl
      refine pure_ (i := 7) (N := some 20) (v := ?_) (a' := ?_) #[true, true, true, true, false, false, true, true, false, false, false, false, false, false, false, false, false, false] rfl rfl (by kernel_rfl) (fun _ _ _ h => h) (Or.inl ⟨by rfl, ?_⟩) ?_ ?_
      rotate_left
      · intro w'
        go_simp
        with_reducible rfl
      rotate_left
      · simp only [Act.put, List.setIfInBounds_toArray, List.set_cons_zero, List.set_cons_succ, i64_w, i32_w]
        rfl
      refine pure_ (i := 8) (N := some 21) (v := ?_) (a' := ?_) #[true, true, true, true, false, false, true, true, true, false, false, false, false, false, false, false, false, false] rfl rfl (by kernel_rfl) (fun _ _ _ h => h) (Or.inl ⟨by rfl, ?_⟩) ?_ ?_
      rotate_left
      · intro w'
        go_simp
        with_reducible rfl
      rotate_left
      · simp only [Act.put, List.setIfInBounds_toArray, List.set_cons_zero, List.set_cons_succ, i64_w, i32_w]
        rfl
      refine pure_ (i := 9) (N := some 22) (v := ?_) (a' := ?_) #[true, true, true, true, false, false, true, true, true, true, false, false, false, false, false, false, false, false] rfl rfl (by kernel_rfl) (fun _ _ _ h => h) (Or.inl ⟨by rfl, ?_⟩) ?_ ?_
      rotate_left
      · intro w'
        go_simp
        with_reducible rfl
      rotate_left
      · simp only [Act.put, List.setIfInBounds_toArray, List.set_cons_zero, List.set_cons_succ, i64_w, i32_w]
        rfl
      refine take_ (i := 4) (N := some 17) (v := ?_) (a' := ?_) #[true, true, true, true, true, false, true, true, true, true, false, false, false, false, false, false, false, false] rfl rfl (by kernel_rfl) (fun _ _ _ h => h) (Or.inl ⟨by rfl, ?_⟩) hHeld ?_ ?_
      rotate_left
      · rintro w' ⟨s0, s1⟩
        go_simp
        with_reducible rfl
      rotate_left
      · simp only [Act.put, List.setIfInBounds_toArray, List.set_cons_zero, List.set_cons_succ, i64_w, i32_w]
        rfl
      refine take_ (i := 10) (N := some 23) (v := ?_) (a' := ?_) #[true, true, true, true, true, false, true, true, true, true, true, false, false, false, false, false, false, false] rfl rfl (by kernel_rfl) (fun _ _ _ h => h) (Or.inl ⟨by rfl, ?_⟩) hHeld ?_ ?_
      rotate_left
      · rintro w' ⟨s0, s1⟩
        go_simp
        with_reducible rfl
      rotate_left
      · simp only [Act.put, List.setIfInBounds_toArray, List.set_cons_zero, List.set_cons_succ, i64_w, i32_w]
        rfl
      refine one_ (i := 5) (N := some 18) #[true, true, true, true, true, true, true, true, true, true, true, false, false, false, false, false, false, false] rfl rfl (by kernel_rfl) (by decide) (fun K hK => ?_)
      refine Kd.R_lit_step k56 (w0 := wr.drew) wr.drew.heap.size 56 ?hw (N := 18) ?hd (xs := []) (inner := []) (ok := (fun k => (w.heap.size ≤ k ∧ k ≠ g) ∧ some k ≠ (Value.slice A3 i c3).ownBlock)) (okp := fun _ => False) ?hr (Reps.none _ _) (fun _ hk => hk.elim) ?hf (Below.refl _ _) (Nat.le_refl _) (by simp) ?_
      case hw => rfl
      case hd => rfl
      case hr => first | (go_simp; done) | (go_simp; rfl)
      case hf => exact OKN.out _ (Nat.le_refl _)
      intro vL w2 hR hb _ _
      have RL := Aside0.mk hR
      have HBD := Aside0.mk hb
      have HBA : Aside0 (Below wr.heap.size wr w2) := ⟨below_step (below_drew (Below.refl _ _)) hb⟩
      clear hR hb
      refine hK.out _ _ ⟨pw_cell_below HBA.out q2, pw_cell_below HBA.out z1⟩ (fun hHeld => ?_)
      clear hK K
      refine norm_ (a' := ?_) ?_ ?_
      rotate_left
      · show Act.put _ (some 18) _ = _
        simp only [Act.put, List.setIfInBounds_toArray, List.set_cons_zero, List.set_cons_succ, i64_w, i32_w]
        rfl
      refine one_ (i := 11) (N := some 24) #[true, true, true, true, true, true, true, true, true, true, true, true, false, false, false, false, false, false] rfl rfl (by kernel_rfl) (by decide) (fun K hK => ?_)
      refine Kd.R_append_rows_step (w0 := wr.drew) k56 wr.drew.heap.size ?hw (.tmp 18) (.tmp 23) 24 56 (.agg #[.int .i64 0, .int .i64 0]) 16 ?ho hu24 (by kernel_rfl) rfl (by decide) (by decide) vL [] (rdA an i) B (rdA an i).length cb (fun k => (w.heap.size ≤ k ∧ k ≠ g) ∧ some k ≠ (Value.slice A3 i c3).ownBlock) (fun _ => False) ?h1 ?h2 RL.out (Kd.C_below CX.out (below_step HB3.out HBA.out)) (fun x cs hk => by rw [k56_open hk]; exact k56_mkM _ _ _ _) (fun _ hk => hk.elim) ?hf HBD.out HBD.out.size (by have := HAR.out _ (rdA_mem an i HLT.out); simp; omega) ?_
      case hw => rfl
      case ho => rfl
      case h1 => rfl
      case h2 => rfl
      case hf => exact fun k hk => OKN.out k (Nat.le_trans HBD.out.size hk)
      intro v2 w4 hR hb _ _
      obtain ⟨A2, c2, rfl⟩ := Kd.R_slice hR
      have R4 := Aside0.mk hR
      have HBY : Aside0 (Below wr.heap.size wr w4) := ⟨below_step (below_drew (Below.refl _ _)) hb⟩
      have HB5 := Aside0.mk (below_step HB3.out HBY.out)
      have R6 := Aside0.mk (Kd.N_below R3.out HBY.out)
      clear hR hb RL HBD HBA
      refine hK.out _ _ ⟨pw_cell_below HBY.out q2, pw_cell_below HBY.out z1⟩ (fun hHeld => ?_)
      clear hK K
      refine norm_ (a' := ?_) ?_ ?_
      rotate_left
      · show Act.put _ (some 24) _ = _
        simp only [Act.put, List.setIfInBounds_toArray, List.set_cons_zero, List.set_cons_succ, i64_w, i32_w]
        rfl
      refine pure_ (i := 12) (N := some 25) (v := ?_) (a' := ?_) #[true, true, true, true, true, true, true, true, true, true, true, true, true, false, false, false, false, false] rfl rfl (by kernel_rfl) (fun _ _ _ h => h) (Or.inl ⟨by rfl, ?_⟩) ?_ ?_
      rotate_left
      · intro w'
        go_simp
        with_reducible rfl
      rotate_left
      · simp only [Act.put, List.setIfInBounds_toArray, List.set_cons_zero, List.set_cons_succ, i64_w, i32_w]
        rfl
      refine one_ (i := 13) (N := some 26) #[true, true, true, true, true, true, true, true, true, true, true, true, true, true, false, false, false, false] rfl rfl (by kernel_rfl) (by decide) (fun K hK => ?_)
      refine lit_step ?hw (N := 26) ?hd (cs := #[.slice A2 (rdA an i).length c2]) (t := 27) (n := 1) ?hr ?_
      case hw => rfl
      case hd => rfl
      case hr => first | (go_simp; done) | (go_simp; rfl)
      intro gl hgl w5 hA hb
      have BL := Aside0.mk hA
      have R7 := Aside0.mk (Kd.R_below R4.out hb)
      have R8 := Aside0.mk (Kd.N_below R6.out hb)
      have HB6 := Aside0.mk (below_step HB5.out hb)
      have HBZ := Aside0.mk (below_step HBY.out hb)
      have NSL : Aside0 ((w.heap.size ≤ gl ∧ gl ≠ g) ∧ some gl ≠ (Value.slice A3 i c3).ownBlock) := ⟨⟨by rw [hgl]; exact HB5.out.size, fun e => by have := GLT.out; have := HBY.out.size; omega⟩, fun e => by have := Kd.N_lt R6.out gl e.symm; omega⟩
      clear hA hb hgl R4 R6
      refine hK.out _ _ ⟨pw_cell_below HBZ.out q2, pw_cell_below HBZ.out z1⟩ (fun hHeld => ?_)
      clear hK K
      refine norm_ (a' := ?_) ?_ ?_
      rotate_left
      · show Act.put _ (some 26) _ = _
        simp only [Act.put, List.setIfInBounds_toArray, List.set_cons_zero, List.set_cons_succ, i64_w, i32_w]
        rfl
      refine one_ (i := 14) (N := some 27) #[true, true, true, true, true, true, true, true, true, true, true, true, true, true, true, false, false, false] rfl rfl (by kernel_rfl) (by decide) (fun K hK => ?_)
      refine Kd.N_append_rows_step k27 (w0 := w5) (W := w5) 0 ?hw (.tmp 17) (.tmp 26) 22 27 (.agg #[.slice none 0 0]) 24 ?ho hu22 (by kernel_rfl) rfl (by decide) (by decide) (.slice A3 i c3) (an.take i) [rdA an i] (some ⟨gl, 0, none⟩) 1 1 (fun k => w.heap.size ≤ k ∧ k ≠ g) (fun k => (w.heap.size ≤ k ∧ k ≠ g) ∧ some k ≠ (Value.slice A3 i c3).ownBlock) ?h1 ?h2 R8.out (F_one BL.out NSL.out (FK_27 R7.out)) ?h4 ?h3 (Below.refl _ _) (Nat.zero_le _) (by have := HL.out; have := HLT.out; simp; omega) ?_
      case hw => rfl
      case ho => rfl
      case h1 => rfl
      case h2 => rfl
      case h4 => exact fun k hk => hk
      case h3 => exact fun k hk => ⟨Nat.le_trans HB6.out.size hk, fun e => by have := GLT.out; have := HBZ.out.size; omega⟩
      intro v6 w6 hN hb hgr hat
      obtain ⟨A4, c4, hv4⟩ := Kd.N_slice hN
      rw [take_succ_A an i HLT.out] at hN hv4
      rw [show (an.take (i + 1)).length = i + 1 by have := HLT.out; simp; omega] at hv4
      subst hv4
      have N6 := Aside0.mk hN
      have HG6 := Aside0.mk (blk_grown (blk_below HG3.out HBZ.out) hgr ngx.out)
      have s1 : w6.cell? (ad.add i) = some (.slice B (rdA an i).length cb) := cell_grown hgr (pw_cell_below HBZ.out z1) HNE.out
      have FR6 : Aside0 (Fr w5 w6 (fun k => w.heap.size ≤ k)) := ⟨Fr.grown hgr (fun k hk => (R8.out.1 k hk).1)⟩
      clear hN hb hgr hat
      refine hK.out _ _ ⟨(blk_cell HG6.out 0 |>.trans rfl), s1⟩ (fun hHeld => ?_)
      clear hK K
      refine norm_ (a' := ?_) ?_ ?_
      rotate_left
      · show Act.put _ (some 27) _ = _
        simp only [Act.put, List.setIfInBounds_toArray, List.set_cons_zero, List.set_cons_succ, i64_w, i32_w]
        rfl
      refine pure_ (i := 15) (N := some 28) (v := ?_) (a' := ?_) #[true, true, true, true, true, true, true, true, true, true, true, true, true, true, true, true, false, false] rfl rfl (by kernel_rfl) (fun _ _ _ h => h) (Or.inl ⟨by rfl, ?_⟩) ?_ ?_
      rotate_left
      · intro w'
        go_simp
        with_reducible rfl
      rotate_left
      · simp only [Act.put, List.setIfInBounds_toArray, List.set_cons_zero, List.set_cons_succ, i64_w, i32_w]
        rfl
      refine pure_ (i := 16) (N := some 29) (v := ?_) (a' := ?_) #[true, true, true, true, true, true, true, true, true, true, true, true, true, true, true, true, true, false] rfl rfl (by kernel_rfl) (fun _ _ _ h => h) (Or.inl ⟨by rfl, ?_⟩) ?_ ?_
      rotate_left
      · intro w'
        go_simp
        with_reducible rfl
      rotate_left
      · simp only [Act.put, List.setIfInBounds_toArray, List.set_cons_zero, List.set_cons_succ, i64_w, i32_w]
        rfl
      refine last_ (i := 17) (N := none) #[true, true, true, true, true, true, true, true, true, true, true, true, true, true, true, true, true, true] rfl rfl (by kernel_rfl) (by decide) (fun K hK => ?_)
      refine storeCell_step (g := g) (j := 0) (x := .slice A4 (i + 1) c4) (by rfl) rfl rfl rfl rfl HG6.out (by simp) (by kernel_rfl) rfl ?_
      intro w7 hA hb ho hs'
      have HG7 : Aside0 (w7.heap[g]? = some (.cells #[.slice A4 (i + 1) c4, .slice none 0 0] 48 (0, 0))) := ⟨hA⟩
      have N7 := Aside0.mk (Kd.N_step N6.out (fun k hk _ => ho k hk.2))
      have FR7 : Aside0 (Fr w w7 (fun k => w.heap.size ≤ k)) := ⟨((Fr.of_below HB6.out _).then_ FR6.out (fun k hk => .inl hk)).then_ (Fr.stored (S := fun k => k = g) hb ho hs' rfl) (fun k hk => .inr (hk ▸ hgw.out))⟩
      clear hA hb ho hs'
      refine hK.out _ _ ?_
      clear hK K
      refine done_ (by kernel_rfl) ?_

      go_wp2
      go_roundg (an.length - (i + 1))
      case measure => have := I3.out; have := HLT.out; omega
      case rel => exact ⟨i + 1, A4, c4, by have := HLT.out; omega, by go_num, by have := HLT.out; omega, HG7.out, N7.out, FR7.out.to_below (fun k hk => hk)⟩
    · have dl : decide (i < an.length) = false := by simpa using hlt
      have hin : i = an.length := by have := I3.out; omega
      subst hin
      go_wp2
      go_ret
      have h3 := R3.out
      rw [List.take_length] at h3
      exact ⟨g, rfl, ⟨A3, _, _, HG3.out, (Kd.N_reads' h3).2.1, by rw [GG.out]; exact Nat.le_refl _, Kd.F_mono (Kd.N_F h3) (fun k hk => ⟨hk, by simp [Value.ownBlock]⟩), Kd.N_nil _ _ _ _ _⟩, HB3.out⟩
end Go.Proofs.Ytmofdpkddimmlaa.ETrace
