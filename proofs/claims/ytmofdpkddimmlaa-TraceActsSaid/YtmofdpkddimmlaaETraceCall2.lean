/-
  The contract of a host's Call: an answer.
-/
import Derived.Test.YtmofdpkddimmlaaETraceCall
namespace Go.Proofs.Ytmofdpkddimmlaa.ETrace
open Go Go.RowKit Go.Proofs.Ytmofdpkddimmlaa.F Go.Proofs.Ytmofdpkddimmlaa.PureVals Go.Proofs.YtmofdpkddimmlaaW.Hand Go.Proofs.YtmofdpkddimmlaaW.PrintWords Go.Proofs.YtmofdpkddimmlaaW.PrintLast Go.Proofs.YtmofdpkddimmlaaW.PrintMore
set_option linter.unusedVariables false
set_option linter.unusedSimpArgs false
theorem F_tail {d : Kd (List S56)} {W : World} {ok : Nat → Prop} {A : Option Addr} {c : Nat} {vs : List S56} {rest : List (List S56)} (hd : d.sz = 1) (h : Kd.F d W ok A (vs :: rest).length (vs :: rest)) (hc : (vs :: rest).length ≤ c) : Kd.F d W ok (if c = 1 then A else A.map (·.add 1)) rest.length rest :=
  Kd.F_imp h (fun W' hC => by have := Kd.C_drop (m := 1) hC (by simp) hc; rw [hd] at this; simpa using this)
theorem F_of_27 {W : World} {vs : List S56} {B : Option Addr} {c : Nat} {ok : Nat → Prop} (h : Kd.FK k27 W ok vs [.slice B vs.length c]) : Kd.F k56 W ok B vs.length vs := fun W' hW => by
  obtain ⟨A, c', e, _, hC⟩ := k27_open (h W' hW)
  injection e with e1
  injection e1 with e2
  subst e2
  exact hC
set_option maxHeartbeats 4000000 in
set_option maxRecDepth 100000 in
theorem call_wrong {w : World} {g : Nat} {S : Nat → Prop} {an : List (List S56)} {hs : List Hd} {vs : List S56} {f : Int} {Ap Ar B : Option Addr} {np cp cr c : Nat} {rs : List Int} {args : List S56} (h : Hs w g S (vs :: an) hs) (hf : 0 ≤ f) (hlen : hs.length ≤ 1000) (hr : Kd.F (Kd.int .i64) w (fun k => ¬ S k) Ar rs.length rs) (hcr : rs.length ≤ cr) (ha : k56.C w B args.length args) (has : args.length * 16 ≤ 140737488351232) (hfit : fitV rs vs = false) :
    Calls Try.prog 17 #[.pointer (some ⟨g, 0, none⟩), .int .i64 f, .agg #[.slice Ap np cp, .slice Ar rs.length cr], .slice B args.length c] w fun e w' => e = .returned (.tuple #[.slice none 0 0, .int .i64 1102]) ∧ Hs w' g (fun k => S k ∨ w.heap.size ≤ k) an (hs ++ [⟨f, args⟩]) ∧ Fr w w' S := by
  have hu36 := Try.underlying36
  have hu27 := Try.underlying27
  have hu52 := Try.underlying52
  have hu56 := Try.underlying56
  have hu46 := Try.underlying46
  have hu22 := Try.underlying22
  have hu24 := Try.underlying24
  have hu110 := Try.underlying110
  have d1 : decide (f < 0) = false := by simp; omega
  obtain ⟨A, cA, u, hg, hcA, hS, hF, hN⟩ := h
  obtain ⟨Au, cu, rfl⟩ := Kd.N_slice hN
  have HG := Aside0.mk hg
  have HCA := Aside0.mk hcA
  have HSg := Aside0.mk hS
  have HF := Aside0.mk hF
  have HN := Aside0.mk hN
  have HL := Aside0.mk hlen
  have HR := Aside0.mk hr
  have HCR := Aside0.mk hcr
  have HA := Aside0.mk ha
  have C1 := Aside0.mk (fun W (hb : Below w.heap.size w W) => clone_calls (Kd.C_below ha hb) has (c := c))
  clear hg hcA hS hF hN hlen hr hcr ha has hf
  have HFit := Aside0.mk (fun W A c (hf : Fr w W S) (h : k56.C W A vs.length vs) (hc : vs.length ≤ c) => fits_calls hfit (Kd.F_now (Kd.F_step HR.out (fun k hk hlt => hf.k.2 k hlt hk))) HCR.out h hc)
  clear hfit
  go_enter Try.func17, Try.ntmps17
  go_wp2_with (first
    | ((with_reducible refine gate_dst (N := 6) rfl ?_); refine box_event ?hg (N := 6) ?hd (cs := #[.slice Ap np cp, .slice Ar rs.length cr]) (t := 36) ?hr ?_; (case hd => rfl); (case hg => rfl); (case hr => first | (go_simp; done) | (go_simp; rfl)); intro g6 hgg6 w1 hA hb; have GL := Aside0.mk (show w.heap.size ≤ g6 by rw [hgg6]; exact Nat.le_refl _); have HB := Aside0.mk hb; have BB := Aside0.mk hA; have HG1 := Aside0.mk (blk_below HG.out hb); have y1 : w1.cell? ⟨g, 1, none⟩ = some (.slice Au hs.length cu) := blk_cell HG1.out 1; clear hA hb hgg6))
  refine start_ (n := 14) (S := fun w' => w'.cell? ⟨g, 1, none⟩ = some (.slice Au hs.length cu)) (ds := [13]) #[false, false, false, false, false, false, false, false, false, false, false, false, false, false] (by kernel_rfl) rfl rfl (y1) (fun hHeld => ?_)
  refine pure_ (i := 0) (N := some 17) (v := ?_) (a' := ?_) #[true, false, false, false, false, false, false, false, false, false, false, false, false, false] rfl rfl (by kernel_rfl) (fun _ _ _ h => h) (Or.inl ⟨by rfl, ?_⟩) ?_ ?_
  rotate_left
  · intro w'
    go_simp
    with_reducible rfl
  rotate_left
  · simp only [Act.put, List.setIfInBounds_toArray, List.set_cons_zero, List.set_cons_succ, i64_w, i32_w]
    rfl
  refine pure_ (i := 1) (N := some 18) (v := ?_) (a' := ?_) #[true, true, false, false, false, false, false, false, false, false, false, false, false, false] rfl rfl (by kernel_rfl) (fun _ _ _ h => h) (Or.inl ⟨by rfl, ?_⟩) ?_ ?_
  rotate_left
  · intro w'
    go_simp
    with_reducible rfl
  rotate_left
  · simp only [Act.put, List.setIfInBounds_toArray, List.set_cons_zero, List.set_cons_succ, i64_w, i32_w]
    rfl
  refine pure_ (i := 2) (N := some 19) (v := ?_) (a' := ?_) #[true, true, true, false, false, false, false, false, false, false, false, false, false, false] rfl rfl (by kernel_rfl) (fun _ _ _ h => h) (Or.inl ⟨by rfl, ?_⟩) ?_ ?_
  rotate_left
  · intro w'
    go_simp
    with_reducible rfl
  rotate_left
  · simp only [Act.put, List.setIfInBounds_toArray, List.set_cons_zero, List.set_cons_succ, i64_w, i32_w]
    rfl
  refine pure_ (i := 3) (N := some 20) (v := ?_) (a' := ?_) #[true, true, true, true, false, false, false, false, false, false, false, false, false, false] rfl rfl (by kernel_rfl) (fun _ _ _ h => h) (Or.inl ⟨by rfl, ?_⟩) ?_ ?_
  rotate_left
  · intro w'
    go_simp
    with_reducible rfl
  rotate_left
  · simp only [Act.put, List.setIfInBounds_toArray, List.set_cons_zero, List.set_cons_succ, i64_w, i32_w]
    rfl
  refine pure_ (i := 5) (N := some 22) (v := ?_) (a' := ?_) #[true, true, true, true, false, true, false, false, false, false, false, false, false, false] rfl rfl (by kernel_rfl) (fun _ _ _ h => h) (Or.inl ⟨by rfl, ?_⟩) ?_ ?_
  rotate_left
  · intro w'
    go_simp
    with_reducible rfl
  rotate_left
  · simp only [Act.put, List.setIfInBounds_toArray, List.set_cons_zero, List.set_cons_succ, i64_w, i32_w]
    rfl
  refine pure_ (i := 6) (N := some 23) (v := ?_) (a' := ?_) #[true, true, true, true, false, true, true, false, false, false, false, false, false, false] rfl rfl (by kernel_rfl) (fun _ _ _ h => h) (Or.inl ⟨by rfl, ?_⟩) ?_ ?_
  rotate_left
  · intro w'
    go_simp
    with_reducible rfl
  rotate_left
  · simp only [Act.put, List.setIfInBounds_toArray, List.set_cons_zero, List.set_cons_succ, i64_w, i32_w]
    rfl
  refine take_ (i := 4) (N := some 21) (v := ?_) (a' := ?_) #[true, true, true, true, true, true, true, false, false, false, false, false, false, false] rfl rfl (by kernel_rfl) (fun _ _ _ h => h) (Or.inl ⟨by rfl, ?_⟩) hHeld ?_ ?_
  rotate_left
  · intro w' s0
    go_simp
    with_reducible rfl
  rotate_left
  · simp only [Act.put, List.setIfInBounds_toArray, List.set_cons_zero, List.set_cons_succ, i64_w, i32_w]
    rfl
  refine one_ (i := 7) (N := some 24) #[true, true, true, true, true, true, true, true, false, false, false, false, false, false] rfl rfl (by kernel_rfl) (by decide) (fun K hK => ?_)
  refine goes_ Try.func48 (by kernel_rfl) rfl #[.slice B args.length c] (by rfl) rfl rfl (by simp only [List.map_toArray, List.map_cons, List.map_nil]; rfl) ?_
  with_reducible refine (C1.out _ (below_drew HB.out)).mono ?_
  rintro e w2 ⟨A2, c2, rfl, hR, hb⟩
  refine ⟨_, rfl, ?_⟩
  have R2 := Aside0.mk hR
  have HB2 : Aside0 (Below w1.heap.size w1 w2) := ⟨below_step (below_drew (Below.refl _ _)) hb⟩
  have GE : Aside0 (w.heap.size ≤ w1.drew.heap.size) := ⟨HB.out.size⟩
  clear hR hb
  refine hK.out _ _ (pw_cell_below HB2.out y1) (fun hHeld => ?_)
  clear hK K
  refine norm_ (a' := ?_) ?_ ?_
  rotate_left
  · show Act.put _ (some 24) _ = _
    simp only [Act.put, List.setIfInBounds_toArray, List.set_cons_zero, List.set_cons_succ, i64_w, i32_w]
    rfl
  refine pure_ (i := 8) (N := some 25) (v := ?_) (a' := ?_) #[true, true, true, true, true, true, true, true, true, false, false, false, false, false] rfl rfl (by kernel_rfl) (fun _ _ _ h => h) (Or.inl ⟨by rfl, ?_⟩) ?_ ?_
  rotate_left
  · intro w'
    go_simp
    with_reducible rfl
  rotate_left
  · simp only [Act.put, List.setIfInBounds_toArray, List.set_cons_zero, List.set_cons_succ, i64_w, i32_w]
    rfl
  refine one_ (i := 9) (N := some 26) #[true, true, true, true, true, true, true, true, true, true, false, false, false, false] rfl rfl (by kernel_rfl) (by decide) (fun K hK => ?_)
  refine lit_step ?hw (N := 26) ?hd (cs := #[.int .i64 f, .slice A2 args.length c2]) (t := 52) (n := 1) ?hr ?_
  case hw => rfl
  case hd => rfl
  case hr => first | (go_simp; done) | (go_simp; rfl)
  intro gl hgl w3 hA hb
  have BL := Aside0.mk hA
  have R3 := Aside0.mk (Kd.R_mono (Kd.R_below R2.out hb) (fun k hk => (Nat.le_trans GE.out hk : w.heap.size ≤ k)))
  have HB3 : Aside0 (Below w1.heap.size w1 w3) := ⟨below_step HB2.out hb⟩
  have HBw3 := Aside0.mk (below_step HB.out HB3.out)
  have GLL : Aside0 (w.heap.size ≤ gl) := ⟨by rw [hgl]; exact Nat.le_trans HB.out.size HB2.out.size⟩
  clear hA hb hgl R2
  refine hK.out _ _ (pw_cell_below HB3.out y1) (fun hHeld => ?_)
  clear hK K
  refine norm_ (a' := ?_) ?_ ?_
  rotate_left
  · show Act.put _ (some 26) _ = _
    simp only [Act.put, List.setIfInBounds_toArray, List.set_cons_zero, List.set_cons_succ, i64_w, i32_w]
    rfl
  refine one_ (i := 10) (N := some 27) #[true, true, true, true, true, true, true, true, true, true, true, false, false, false] rfl rfl (by kernel_rfl) (by decide) (fun K hK => ?_)
  refine Kd.N_append_rows_step k52 (w0 := w3) (W := w3) 0 ?hw (.tmp 21) (.tmp 26) 46 52 (.agg #[.int .i64 0, .slice none 0 0]) 32 ?ho hu46 (by kernel_rfl) rfl (by decide) (by decide) (.slice Au hs.length cu) hs [(⟨f, args⟩ : Hd)] (some ⟨gl, 0, none⟩) 1 1 (fun k => (S k ∨ w.heap.size ≤ k) ∧ k ≠ g) (fun k => w.heap.size ≤ k) ?h1 ?h2 (Kd.N_mono (Kd.N_below HN.out HBw3.out) (fun k hk => ⟨.inl hk.1, hk.2⟩)) (F_one BL.out GLL.out (FK_52 R3.out)) ?h4 ?h3 (Below.refl _ _) (Nat.zero_le _) (by have := HL.out; simp; omega) ?_
  case hw => rfl
  case ho => rfl
  case h1 => rfl
  case h2 => rfl
  case h4 => exact fun k hk => ⟨⟨.inr hk, fun e => by have := blk_lt HG.out; omega⟩, fun e => by have := Kd.N_lt HN.out k e.symm; omega⟩
  case h3 => exact fun k hk => ⟨.inr (Nat.le_trans HBw3.out.size hk), fun e => by have := blk_lt HG.out; have := HBw3.out.size; omega⟩
  intro v4 w4 hN hb hgr hat
  obtain ⟨A4, c4, hv4⟩ := Kd.N_slice hN
  rw [show (hs ++ [(⟨f, args⟩ : Hd)]).length = hs.length + 1 by simp] at hv4
  subst hv4
  have N4 := Aside0.mk hN
  have hne : Aside0 (some g ≠ (Value.slice Au hs.length cu).ownBlock) := ⟨fun e => (HN.out.1 g e.symm).2 rfl⟩
  have hn6 : Aside0 (some g6 ≠ (Value.slice Au hs.length cu).ownBlock) := ⟨fun e => by have := Kd.N_lt HN.out g6 e.symm; have := GL.out; omega⟩
  have HG4 := Aside0.mk (blk_grown (blk_below HG.out HBw3.out) hgr hne.out)
  have BB4 := Aside0.mk (blk_grown (blk_below BB.out HB3.out) hgr hn6.out)
  have F4 := Aside0.mk (Kd.F_after (Kd.F_below HF.out HBw3.out) hgr hat)
  have FR4 : Aside0 (Fr w w4 S) := ⟨(Fr.of_below HBw3.out S).then_ (Fr.grown (S := fun k => some k = (Value.slice Au hs.length cu).ownBlock) hgr (fun k hk => hk.symm)) (fun k hk => .inl (HN.out.1 k hk.symm).1)⟩
  clear hN hb hgr hat
  refine hK.out _ _ (blk_cell HG4.out 1 |>.trans rfl) (fun hHeld => ?_)
  clear hK K
  refine norm_ (a' := ?_) ?_ ?_
  rotate_left
  · show Act.put _ (some 27) _ = _
    simp only [Act.put, List.setIfInBounds_toArray, List.set_cons_zero, List.set_cons_succ, i64_w, i32_w]
    rfl
  refine pure_ (i := 11) (N := some 28) (v := ?_) (a' := ?_) #[true, true, true, true, true, true, true, true, true, true, true, true, false, false] rfl rfl (by kernel_rfl) (fun _ _ _ h => h) (Or.inl ⟨by rfl, ?_⟩) ?_ ?_
  rotate_left
  · intro w'
    go_simp
    with_reducible rfl
  rotate_left
  · simp only [Act.put, List.setIfInBounds_toArray, List.set_cons_zero, List.set_cons_succ, i64_w, i32_w]
    rfl
  refine pure_ (i := 12) (N := some 29) (v := ?_) (a' := ?_) #[true, true, true, true, true, true, true, true, true, true, true, true, true, false] rfl rfl (by kernel_rfl) (fun _ _ _ h => h) (Or.inl ⟨by rfl, ?_⟩) ?_ ?_
  rotate_left
  · intro w'
    go_simp
    with_reducible rfl
  rotate_left
  · simp only [Act.put, List.setIfInBounds_toArray, List.set_cons_zero, List.set_cons_succ, i64_w, i32_w]
    rfl
  refine last_ (i := 13) (N := none) #[true, true, true, true, true, true, true, true, true, true, true, true, true, true] rfl rfl (by kernel_rfl) (by decide) (fun K hK => ?_)
  refine storeCell_step (g := g) (j := 1) (x := .slice A4 (hs.length + 1) c4) (by rfl) rfl rfl rfl rfl HG4.out (by simp) (by kernel_rfl) rfl ?_
  intro w5 hA hb ho hs'
  have HG5 : Aside0 (w5.heap[g]? = some (.cells #[.slice A (an.length + 1) cA, .slice A4 (hs.length + 1) c4] 110 (0, 0))) := ⟨hA⟩
  have B5 := Aside0.mk ((ho g6 (fun e => by have := GL.out; have := blk_lt HG.out; omega)).trans BB4.out)
  have N5 := Aside0.mk (Kd.N_step N4.out (fun k hk _ => ho k hk.2))
  have F5 := Aside0.mk (Kd.F_step F4.out (fun k hk _ => ho k hk.1.2))
  have FR5 : Aside0 (Fr w w5 S) := ⟨FR4.out.then_ (Fr.stored (S := fun k => k = g) hb ho hs' rfl) (fun k hk => .inl (hk ▸ HSg.out))⟩
  have z0 : w5.cell? ⟨g, 0, none⟩ = some (.slice A (an.length + 1) cA) := blk_cell HG5.out 0
  clear hA hb ho hs' HG4 BB4 N4 F4 FR4 y1
  refine hK.out _ _ ?_
  clear hK K
  refine done_ (by kernel_rfl) ?_

  obtain ⟨ad, cs, rfl, _, hK, hcc, _⟩ := Kd.F_get F5.out [] 0 (by omega) (by simp)
  replace hK : Kd.FK k27 w5 (fun k => (S k ∧ k ≠ g) ∧ some k ≠ (Value.slice A4 (hs.length + 1) c4).ownBlock) vs cs := hK
  obtain ⟨Bv, cv, rfl, hcv, _⟩ := k27_open (Kd.FK_now hK)
  have HCV := Aside0.mk hcv
  have CV := Aside0.mk (F_of_27 hK)
  have z1 : w5.cell? ad = some (.slice Bv vs.length cv) := hcc 0 _ rfl
  clear hK hcc hcv
  have d2 : ((an.length : Int) + 1 == 0) = false := by simp; omega
  have hca : 1 ≤ cA := by have := HCA.out; simp at this; omega
  have HT := Aside0.mk (fun W (h : Kd.F k27 W (fun k => (S k ∧ k ≠ g) ∧ some k ≠ (Value.slice A4 (hs.length + 1) c4).ownBlock) (some ad) (vs :: an).length (vs :: an)) => F_tail rfl h HCA.out)
  by_cases hc1 : cA = 1
  go_wp2_with (first
    | ((with_reducible refine gate_dst (N := 10) rfl ?_); refine box_event ?hg (N := 10) ?hd (cs := #[.slice none 0 0]) (t := 27) ?hr ?_; (case hd => rfl); (case hg => rfl); (case hr => first | (go_simp; done) | (go_simp; rfl)); intro g10 hgg10 w6 hA hb; have B10 := Aside0.mk hA; have HB6 := Aside0.mk hb; have GL10 := Aside0.mk (show w5.heap.size ≤ g10 by rw [hgg10]; exact Nat.le_refl _); clear hA hb hgg10)
    | ((with_reducible refine gate_store (p := 10) rfl ?_); refine storeRow_event (g := g10) rfl rfl rfl (cs := #[.slice Bv vs.length cv]) rfl rfl B10.out (by kernel_rfl) rfl (by simp [Value.oneCell']) ?_; intro w7 hA hb ho hs; have HBx := Aside0.mk (hb _ _ GL10.out HB6.out); have B11 := Aside0.mk hA; have HG7 := Aside0.mk (blk_below HG5.out HBx.out); have z2 : w7.cell? ⟨g, 0, none⟩ = some (.slice (some ad) (an.length + 1) cA) := blk_cell HG7.out 0; clear hA hb ho hs B10 HB6 z0 z1)
    | ((with_reducible refine gate_store (p := 49) rfl ?_); refine hold ?_))
  · subst hc1
    refine ⟨?_⟩
    go_wp2_with (first
      | ((with_reducible refine gate_store (p := 49) rfl ?_); refine storeCell_event (g := g) (j := 0) (x := (.slice (some ad) an.length 0)) rfl rfl rfl rfl rfl HG7.out (by simp) (by kernel_rfl) rfl ?_; intro w8 hA hb ho hs'; have HG8 : Aside0 (w8.heap[g]? = some (.cells #[(.slice (some ad) an.length 0), .slice A4 (hs.length + 1) c4] 110 (0, 0))) := ⟨hA⟩; have ng : ∀ k, w5.heap.size ≤ k → k ≠ g := fun k hk e => (by have := blk_lt HG5.out; omega); have B8 := Aside0.mk ((ho g6 (fun e => by have := GL.out; have := blk_lt HG.out; omega)).trans (blk_below B5.out HBx.out)); have B118 := Aside0.mk ((ho g10 (ng _ GL10.out)).trans B11.out); have N8 := Aside0.mk (Kd.N_step (Kd.N_below N5.out HBx.out) (fun k hk _ => ho k hk.2)); have F8 := Aside0.mk (Kd.F_step (Kd.F_below F5.out HBx.out) (fun k hk _ => ho k hk.1.2)); have FR8 : Aside0 (Fr w w8 S) := ⟨(FR5.out.below HBx.out).then_ (Fr.stored (S := fun k => k = g) hb ho hs' rfl) (fun k hk => .inl (hk ▸ HSg.out))⟩; have CV8 := Aside0.mk (Kd.F_now (Kd.F_step (Kd.F_below CV.out HBx.out) (fun k hk _ => ho k hk.1.2))); have z3 : w8.cell? ⟨g6, 1, none⟩ = some (.slice Ar rs.length cr) := blk_cell B8.out 1; have z4 : w8.cell? ⟨g10, 0, none⟩ = some (.slice Bv vs.length cv) := blk_cell B118.out 0; clear hA hb ho hs' z2 HG7 B11 N5 F5 FR5 B5)
      | (go_at_call 49; (with_reducible refine (HFit.out _ _ _ FR8.out CV8.out HCV.out).mono ?_); rintro _ w9 ⟨rfl, hb⟩; have HB9 := Aside0.mk hb; have z5 : w9.cell? ⟨g10, 0, none⟩ = some (.slice Bv vs.length cv) := blk_cell (blk_below B118.out hb) 0; clear hb z3 z4))
    go_ret2
    have HT8 : Kd.F k27 w8 (fun k => (S k ∧ k ≠ g) ∧ some k ≠ (Value.slice A4 (hs.length + 1) c4).ownBlock) (some ad) an.length an := by simpa using HT.out _ F8.out
    have hle : an.length + 1 ≤ 1 := HCA.out
    exact ⟨rfl, (show Hs w8 g (fun k => S k ∨ w.heap.size ≤ k) an (hs ++ [⟨f, args⟩]) from ⟨_, _, _, HG8.out, by omega, .inl HSg.out, Kd.F_mono HT8 (fun k hk => ⟨⟨.inl hk.1.1, hk.1.2⟩, hk.2⟩), N8.out⟩).below HB9.out, FR8.out.below HB9.out⟩
  refine ⟨?_⟩
  go_wp2_with (first
    | ((with_reducible refine gate_store (p := 49) rfl ?_); refine storeCell_event (g := g) (j := 0) (x := (.slice (some (ad.add 1)) an.length (cA - 1))) rfl rfl rfl rfl rfl HG7.out (by simp) (by kernel_rfl) rfl ?_; intro w8 hA hb ho hs'; have HG8 : Aside0 (w8.heap[g]? = some (.cells #[(.slice (some (ad.add 1)) an.length (cA - 1)), .slice A4 (hs.length + 1) c4] 110 (0, 0))) := ⟨hA⟩; have ng : ∀ k, w5.heap.size ≤ k → k ≠ g := fun k hk e => (by have := blk_lt HG5.out; omega); have B8 := Aside0.mk ((ho g6 (fun e => by have := GL.out; have := blk_lt HG.out; omega)).trans (blk_below B5.out HBx.out)); have B118 := Aside0.mk ((ho g10 (ng _ GL10.out)).trans B11.out); have N8 := Aside0.mk (Kd.N_step (Kd.N_below N5.out HBx.out) (fun k hk _ => ho k hk.2)); have F8 := Aside0.mk (Kd.F_step (Kd.F_below F5.out HBx.out) (fun k hk _ => ho k hk.1.2)); have FR8 : Aside0 (Fr w w8 S) := ⟨(FR5.out.below HBx.out).then_ (Fr.stored (S := fun k => k = g) hb ho hs' rfl) (fun k hk => .inl (hk ▸ HSg.out))⟩; have CV8 := Aside0.mk (Kd.F_now (Kd.F_step (Kd.F_below CV.out HBx.out) (fun k hk _ => ho k hk.1.2))); have z3 : w8.cell? ⟨g6, 1, none⟩ = some (.slice Ar rs.length cr) := blk_cell B8.out 1; have z4 : w8.cell? ⟨g10, 0, none⟩ = some (.slice Bv vs.length cv) := blk_cell B118.out 0; clear hA hb ho hs' z2 HG7 B11 N5 F5 FR5 B5)
    | (go_at_call 49; (with_reducible refine (HFit.out _ _ _ FR8.out CV8.out HCV.out).mono ?_); rintro _ w9 ⟨rfl, hb⟩; have HB9 := Aside0.mk hb; have z5 : w9.cell? ⟨g10, 0, none⟩ = some (.slice Bv vs.length cv) := blk_cell (blk_below B118.out hb) 0; clear hb z3 z4))
  go_ret2
  have HT8 : Kd.F k27 w8 (fun k => (S k ∧ k ≠ g) ∧ some k ≠ (Value.slice A4 (hs.length + 1) c4).ownBlock) (some (ad.add 1)) an.length an := by simpa [hc1] using HT.out _ F8.out
  have hle : an.length + 1 ≤ cA := HCA.out
  exact ⟨rfl, (show Hs w8 g (fun k => S k ∨ w.heap.size ≤ k) an (hs ++ [⟨f, args⟩]) from ⟨_, _, _, HG8.out, by omega, .inl HSg.out, Kd.F_mono HT8 (fun k hk => ⟨⟨.inl hk.1.1, hk.1.2⟩, hk.2⟩), N8.out⟩).below HB9.out, FR8.out.below HB9.out⟩
set_option maxHeartbeats 4000000 in
set_option maxRecDepth 100000 in
theorem call_ok {w : World} {g : Nat} {S : Nat → Prop} {an : List (List S56)} {hs : List Hd} {vs : List S56} {f : Int} {Ap Ar B : Option Addr} {np cp cr c : Nat} {rs : List Int} {args : List S56} (h : Hs w g S (vs :: an) hs) (hf : 0 ≤ f) (hlen : hs.length ≤ 1000) (hr : Kd.F (Kd.int .i64) w (fun k => ¬ S k) Ar rs.length rs) (hcr : rs.length ≤ cr) (ha : k56.C w B args.length args) (has : args.length * 16 ≤ 140737488351232) (hfit : fitV rs vs = true) (hvs : vs.length * 16 ≤ 140737488351232) :
    Calls Try.prog 17 #[.pointer (some ⟨g, 0, none⟩), .int .i64 f, .agg #[.slice Ap np cp, .slice Ar rs.length cr], .slice B args.length c] w fun e w' => ∃ A' c' m, e = .returned (.tuple #[.slice A' vs.length c', .int .i64 0]) ∧ w.heap.size ≤ m ∧ Hs w' g (fun k => (S k ∨ w.heap.size ≤ k) ∧ k < m) an (hs ++ [⟨f, args⟩]) ∧ k56.R 56 w' m (fun k => m ≤ k) (.slice A' vs.length c') vs ∧ Fr w w' S := by
  have hu36 := Try.underlying36
  have hu27 := Try.underlying27
  have hu52 := Try.underlying52
  have hu56 := Try.underlying56
  have hu46 := Try.underlying46
  have hu22 := Try.underlying22
  have hu24 := Try.underlying24
  have hu110 := Try.underlying110
  have d1 : decide (f < 0) = false := by simp; omega
  obtain ⟨A, cA, u, hg, hcA, hS, hF, hN⟩ := h
  obtain ⟨Au, cu, rfl⟩ := Kd.N_slice hN
  have HG := Aside0.mk hg
  have HCA := Aside0.mk hcA
  have HSg := Aside0.mk hS
  have HF := Aside0.mk hF
  have HN := Aside0.mk hN
  have HL := Aside0.mk hlen
  have HR := Aside0.mk hr
  have HCR := Aside0.mk hcr
  have HA := Aside0.mk ha
  have C1 := Aside0.mk (fun W (hb : Below w.heap.size w W) => clone_calls (Kd.C_below ha hb) has (c := c))
  clear hg hcA hS hF hN hlen hr hcr ha has hf
  have HFit := Aside0.mk (fun W A c (hf : Fr w W S) (h : k56.C W A vs.length vs) (hc : vs.length ≤ c) => fits_calls hfit (Kd.F_now (Kd.F_step HR.out (fun k hk hlt => hf.k.2 k hlt hk))) HCR.out h hc)
  have HVS := Aside0.mk hvs
  clear hfit hvs
  go_enter Try.func17, Try.ntmps17
  go_wp2_with (first
    | ((with_reducible refine gate_dst (N := 6) rfl ?_); refine box_event ?hg (N := 6) ?hd (cs := #[.slice Ap np cp, .slice Ar rs.length cr]) (t := 36) ?hr ?_; (case hd => rfl); (case hg => rfl); (case hr => first | (go_simp; done) | (go_simp; rfl)); intro g6 hgg6 w1 hA hb; have GL := Aside0.mk (show w.heap.size ≤ g6 by rw [hgg6]; exact Nat.le_refl _); have HB := Aside0.mk hb; have BB := Aside0.mk hA; have HG1 := Aside0.mk (blk_below HG.out hb); have y1 : w1.cell? ⟨g, 1, none⟩ = some (.slice Au hs.length cu) := blk_cell HG1.out 1; clear hA hb hgg6))
  refine start_ (n := 14) (S := fun w' => w'.cell? ⟨g, 1, none⟩ = some (.slice Au hs.length cu)) (ds := [13]) #[false, false, false, false, false, false, false, false, false, false, false, false, false, false] (by kernel_rfl) rfl rfl (y1) (fun hHeld => ?_)
  refine pure_ (i := 0) (N := some 17) (v := ?_) (a' := ?_) #[true, false, false, false, false, false, false, false, false, false, false, false, false, false] rfl rfl (by kernel_rfl) (fun _ _ _ h => h) (Or.inl ⟨by rfl, ?_⟩) ?_ ?_
  rotate_left
  · intro w'
    go_simp
    with_reducible rfl
  rotate_left
  · simp only [Act.put, List.setIfInBounds_toArray, List.set_cons_zero, List.set_cons_succ, i64_w, i32_w]
    rfl
  refine pure_ (i := 1) (N := some 18) (v := ?_) (a' := ?_) #[true, true, false, false, false, false, false, false, false, false, false, false, false, false] rfl rfl (by kernel_rfl) (fun _ _ _ h => h) (Or.inl ⟨by rfl, ?_⟩) ?_ ?_
  rotate_left
  · intro w'
    go_simp
    with_reducible rfl
  rotate_left
  · simp only [Act.put, List.setIfInBounds_toArray, List.set_cons_zero, List.set_cons_succ, i64_w, i32_w]
    rfl
  refine pure_ (i := 2) (N := some 19) (v := ?_) (a' := ?_) #[true, true, true, false, false, false, false, false, false, false, false, false, false, false] rfl rfl (by kernel_rfl) (fun _ _ _ h => h) (Or.inl ⟨by rfl, ?_⟩) ?_ ?_
  rotate_left
  · intro w'
    go_simp
    with_reducible rfl
  rotate_left
  · simp only [Act.put, List.setIfInBounds_toArray, List.set_cons_zero, List.set_cons_succ, i64_w, i32_w]
    rfl
  refine pure_ (i := 3) (N := some 20) (v := ?_) (a' := ?_) #[true, true, true, true, false, false, false, false, false, false, false, false, false, false] rfl rfl (by kernel_rfl) (fun _ _ _ h => h) (Or.inl ⟨by rfl, ?_⟩) ?_ ?_
  rotate_left
  · intro w'
    go_simp
    with_reducible rfl
  rotate_left
  · simp only [Act.put, List.setIfInBounds_toArray, List.set_cons_zero, List.set_cons_succ, i64_w, i32_w]
    rfl
  refine pure_ (i := 5) (N := some 22) (v := ?_) (a' := ?_) #[true, true, true, true, false, true, false, false, false, false, false, false, false, false] rfl rfl (by kernel_rfl) (fun _ _ _ h => h) (Or.inl ⟨by rfl, ?_⟩) ?_ ?_
  rotate_left
  · intro w'
    go_simp
    with_reducible rfl
  rotate_left
  · simp only [Act.put, List.setIfInBounds_toArray, List.set_cons_zero, List.set_cons_succ, i64_w, i32_w]
    rfl
  refine pure_ (i := 6) (N := some 23) (v := ?_) (a' := ?_) #[true, true, true, true, false, true, true, false, false, false, false, false, false, false] rfl rfl (by kernel_rfl) (fun _ _ _ h => h) (Or.inl ⟨by rfl, ?_⟩) ?_ ?_
  rotate_left
  · intro w'
    go_simp
    with_reducible rfl
  rotate_left
  · simp only [Act.put, List.setIfInBounds_toArray, List.set_cons_zero, List.set_cons_succ, i64_w, i32_w]
    rfl
  refine take_ (i := 4) (N := some 21) (v := ?_) (a' := ?_) #[true, true, true, true, true, true, true, false, false, false, false, false, false, false] rfl rfl (by kernel_rfl) (fun _ _ _ h => h) (Or.inl ⟨by rfl, ?_⟩) hHeld ?_ ?_
  rotate_left
  · intro w' s0
    go_simp
    with_reducible rfl
  rotate_left
  · simp only [Act.put, List.setIfInBounds_toArray, List.set_cons_zero, List.set_cons_succ, i64_w, i32_w]
    rfl
  refine one_ (i := 7) (N := some 24) #[true, true, true, true, true, true, true, true, false, false, false, false, false, false] rfl rfl (by kernel_rfl) (by decide) (fun K hK => ?_)
  refine goes_ Try.func48 (by kernel_rfl) rfl #[.slice B args.length c] (by rfl) rfl rfl (by simp only [List.map_toArray, List.map_cons, List.map_nil]; rfl) ?_
  with_reducible refine (C1.out _ (below_drew HB.out)).mono ?_
  rintro e w2 ⟨A2, c2, rfl, hR, hb⟩
  refine ⟨_, rfl, ?_⟩
  have R2 := Aside0.mk hR
  have HB2 : Aside0 (Below w1.heap.size w1 w2) := ⟨below_step (below_drew (Below.refl _ _)) hb⟩
  have GE : Aside0 (w.heap.size ≤ w1.drew.heap.size) := ⟨HB.out.size⟩
  clear hR hb
  refine hK.out _ _ (pw_cell_below HB2.out y1) (fun hHeld => ?_)
  clear hK K
  refine norm_ (a' := ?_) ?_ ?_
  rotate_left
  · show Act.put _ (some 24) _ = _
    simp only [Act.put, List.setIfInBounds_toArray, List.set_cons_zero, List.set_cons_succ, i64_w, i32_w]
    rfl
  refine pure_ (i := 8) (N := some 25) (v := ?_) (a' := ?_) #[true, true, true, true, true, true, true, true, true, false, false, false, false, false] rfl rfl (by kernel_rfl) (fun _ _ _ h => h) (Or.inl ⟨by rfl, ?_⟩) ?_ ?_
  rotate_left
  · intro w'
    go_simp
    with_reducible rfl
  rotate_left
  · simp only [Act.put, List.setIfInBounds_toArray, List.set_cons_zero, List.set_cons_succ, i64_w, i32_w]
    rfl
  refine one_ (i := 9) (N := some 26) #[true, true, true, true, true, true, true, true, true, true, false, false, false, false] rfl rfl (by kernel_rfl) (by decide) (fun K hK => ?_)
  refine lit_step ?hw (N := 26) ?hd (cs := #[.int .i64 f, .slice A2 args.length c2]) (t := 52) (n := 1) ?hr ?_
  case hw => rfl
  case hd => rfl
  case hr => first | (go_simp; done) | (go_simp; rfl)
  intro gl hgl w3 hA hb
  have BL := Aside0.mk hA
  have R3 := Aside0.mk (Kd.R_mono (Kd.R_below R2.out hb) (fun k hk => (Nat.le_trans GE.out hk : w.heap.size ≤ k)))
  have HB3 : Aside0 (Below w1.heap.size w1 w3) := ⟨below_step HB2.out hb⟩
  have HBw3 := Aside0.mk (below_step HB.out HB3.out)
  have GLL : Aside0 (w.heap.size ≤ gl) := ⟨by rw [hgl]; exact Nat.le_trans HB.out.size HB2.out.size⟩
  clear hA hb hgl R2
  refine hK.out _ _ (pw_cell_below HB3.out y1) (fun hHeld => ?_)
  clear hK K
  refine norm_ (a' := ?_) ?_ ?_
  rotate_left
  · show Act.put _ (some 26) _ = _
    simp only [Act.put, List.setIfInBounds_toArray, List.set_cons_zero, List.set_cons_succ, i64_w, i32_w]
    rfl
  refine one_ (i := 10) (N := some 27) #[true, true, true, true, true, true, true, true, true, true, true, false, false, false] rfl rfl (by kernel_rfl) (by decide) (fun K hK => ?_)
  refine Kd.N_append_rows_step k52 (w0 := w3) (W := w3) 0 ?hw (.tmp 21) (.tmp 26) 46 52 (.agg #[.int .i64 0, .slice none 0 0]) 32 ?ho hu46 (by kernel_rfl) rfl (by decide) (by decide) (.slice Au hs.length cu) hs [(⟨f, args⟩ : Hd)] (some ⟨gl, 0, none⟩) 1 1 (fun k => (S k ∨ w.heap.size ≤ k) ∧ k ≠ g) (fun k => w.heap.size ≤ k) ?h1 ?h2 (Kd.N_mono (Kd.N_below HN.out HBw3.out) (fun k hk => ⟨.inl hk.1, hk.2⟩)) (F_one BL.out GLL.out (FK_52 R3.out)) ?h4 ?h3 (Below.refl _ _) (Nat.zero_le _) (by have := HL.out; simp; omega) ?_
  case hw => rfl
  case ho => rfl
  case h1 => rfl
  case h2 => rfl
  case h4 => exact fun k hk => ⟨⟨.inr hk, fun e => by have := blk_lt HG.out; omega⟩, fun e => by have := Kd.N_lt HN.out k e.symm; omega⟩
  case h3 => exact fun k hk => ⟨.inr (Nat.le_trans HBw3.out.size hk), fun e => by have := blk_lt HG.out; have := HBw3.out.size; omega⟩
  intro v4 w4 hN hb hgr hat
  obtain ⟨A4, c4, hv4⟩ := Kd.N_slice hN
  rw [show (hs ++ [(⟨f, args⟩ : Hd)]).length = hs.length + 1 by simp] at hv4
  subst hv4
  have N4 := Aside0.mk hN
  have hne : Aside0 (some g ≠ (Value.slice Au hs.length cu).ownBlock) := ⟨fun e => (HN.out.1 g e.symm).2 rfl⟩
  have hn6 : Aside0 (some g6 ≠ (Value.slice Au hs.length cu).ownBlock) := ⟨fun e => by have := Kd.N_lt HN.out g6 e.symm; have := GL.out; omega⟩
  have HG4 := Aside0.mk (blk_grown (blk_below HG.out HBw3.out) hgr hne.out)
  have BB4 := Aside0.mk (blk_grown (blk_below BB.out HB3.out) hgr hn6.out)
  have F4 := Aside0.mk (Kd.F_after (Kd.F_below HF.out HBw3.out) hgr hat)
  have FR4 : Aside0 (Fr w w4 S) := ⟨(Fr.of_below HBw3.out S).then_ (Fr.grown (S := fun k => some k = (Value.slice Au hs.length cu).ownBlock) hgr (fun k hk => hk.symm)) (fun k hk => .inl (HN.out.1 k hk.symm).1)⟩
  clear hN hb hgr hat
  refine hK.out _ _ (blk_cell HG4.out 1 |>.trans rfl) (fun hHeld => ?_)
  clear hK K
  refine norm_ (a' := ?_) ?_ ?_
  rotate_left
  · show Act.put _ (some 27) _ = _
    simp only [Act.put, List.setIfInBounds_toArray, List.set_cons_zero, List.set_cons_succ, i64_w, i32_w]
    rfl
  refine pure_ (i := 11) (N := some 28) (v := ?_) (a' := ?_) #[true, true, true, true, true, true, true, true, true, true, true, true, false, false] rfl rfl (by kernel_rfl) (fun _ _ _ h => h) (Or.inl ⟨by rfl, ?_⟩) ?_ ?_
  rotate_left
  · intro w'
    go_simp
    with_reducible rfl
  rotate_left
  · simp only [Act.put, List.setIfInBounds_toArray, List.set_cons_zero, List.set_cons_succ, i64_w, i32_w]
    rfl
  refine pure_ (i := 12) (N := some 29) (v := ?_) (a' := ?_) #[true, true, true, true, true, true, true, true, true, true, true, true, true, false] rfl rfl (by kernel_rfl) (fun _ _ _ h => h) (Or.inl ⟨by rfl, ?_⟩) ?_ ?_
  rotate_left
  · intro w'
    go_simp
    with_reducible rfl
  rotate_left
  · simp only [Act.put, List.setIfInBounds_toArray, List.set_cons_zero, List.set_cons_succ, i64_w, i32_w]
    rfl
  refine last_ (i := 13) (N := none) #[true, true, true, true, true, true, true, true, true, true, true, true, true, true] rfl rfl (by kernel_rfl) (by decide) (fun K hK => ?_)
  refine storeCell_step (g := g) (j := 1) (x := .slice A4 (hs.length + 1) c4) (by rfl) rfl rfl rfl rfl HG4.out (by simp) (by kernel_rfl) rfl ?_
  intro w5 hA hb ho hs'
  have HG5 : Aside0 (w5.heap[g]? = some (.cells #[.slice A (an.length + 1) cA, .slice A4 (hs.length + 1) c4] 110 (0, 0))) := ⟨hA⟩
  have B5 := Aside0.mk ((ho g6 (fun e => by have := GL.out; have := blk_lt HG.out; omega)).trans BB4.out)
  have N5 := Aside0.mk (Kd.N_step N4.out (fun k hk _ => ho k hk.2))
  have F5 := Aside0.mk (Kd.F_step F4.out (fun k hk _ => ho k hk.1.2))
  have FR5 : Aside0 (Fr w w5 S) := ⟨FR4.out.then_ (Fr.stored (S := fun k => k = g) hb ho hs' rfl) (fun k hk => .inl (hk ▸ HSg.out))⟩
  have z0 : w5.cell? ⟨g, 0, none⟩ = some (.slice A (an.length + 1) cA) := blk_cell HG5.out 0
  clear hA hb ho hs' HG4 BB4 N4 F4 FR4 y1
  refine hK.out _ _ ?_
  clear hK K
  refine done_ (by kernel_rfl) ?_

  obtain ⟨ad, cs, rfl, _, hK, hcc, _⟩ := Kd.F_get F5.out [] 0 (by omega) (by simp)
  replace hK : Kd.FK k27 w5 (fun k => (S k ∧ k ≠ g) ∧ some k ≠ (Value.slice A4 (hs.length + 1) c4).ownBlock) vs cs := hK
  obtain ⟨Bv, cv, rfl, hcv, _⟩ := k27_open (Kd.FK_now hK)
  have HCV := Aside0.mk hcv
  have CV := Aside0.mk (F_of_27 hK)
  have z1 : w5.cell? ad = some (.slice Bv vs.length cv) := hcc 0 _ rfl
  clear hK hcc hcv
  have d2 : ((an.length : Int) + 1 == 0) = false := by simp; omega
  have hca : 1 ≤ cA := by have := HCA.out; simp at this; omega
  have HT := Aside0.mk (fun W (h : Kd.F k27 W (fun k => (S k ∧ k ≠ g) ∧ some k ≠ (Value.slice A4 (hs.length + 1) c4).ownBlock) (some ad) (vs :: an).length (vs :: an)) => F_tail rfl h HCA.out)
  by_cases hc1 : cA = 1
  go_wp2_with (first
    | ((with_reducible refine gate_dst (N := 10) rfl ?_); refine box_event ?hg (N := 10) ?hd (cs := #[.slice none 0 0]) (t := 27) ?hr ?_; (case hd => rfl); (case hg => rfl); (case hr => first | (go_simp; done) | (go_simp; rfl)); intro g10 hgg10 w6 hA hb; have B10 := Aside0.mk hA; have HB6 := Aside0.mk hb; have GL10 := Aside0.mk (show w5.heap.size ≤ g10 by rw [hgg10]; exact Nat.le_refl _); clear hA hb hgg10)
    | ((with_reducible refine gate_store (p := 10) rfl ?_); refine storeRow_event (g := g10) rfl rfl rfl (cs := #[.slice Bv vs.length cv]) rfl rfl B10.out (by kernel_rfl) rfl (by simp [Value.oneCell']) ?_; intro w7 hA hb ho hs; have HBx := Aside0.mk (hb _ _ GL10.out HB6.out); have B11 := Aside0.mk hA; have HG7 := Aside0.mk (blk_below HG5.out HBx.out); have z2 : w7.cell? ⟨g, 0, none⟩ = some (.slice (some ad) (an.length + 1) cA) := blk_cell HG7.out 0; clear hA hb ho hs B10 HB6 z0 z1)
    | ((with_reducible refine gate_store (p := 49) rfl ?_); refine hold ?_))
  · subst hc1
    refine ⟨?_⟩
    go_wp2_with (first
      | ((with_reducible refine gate_store (p := 49) rfl ?_); refine storeCell_event (g := g) (j := 0) (x := (.slice (some ad) an.length 0)) rfl rfl rfl rfl rfl HG7.out (by simp) (by kernel_rfl) rfl ?_; intro w8 hA hb ho hs'; have HG8 : Aside0 (w8.heap[g]? = some (.cells #[(.slice (some ad) an.length 0), .slice A4 (hs.length + 1) c4] 110 (0, 0))) := ⟨hA⟩; have ng : ∀ k, w5.heap.size ≤ k → k ≠ g := fun k hk e => (by have := blk_lt HG5.out; omega); have B8 := Aside0.mk ((ho g6 (fun e => by have := GL.out; have := blk_lt HG.out; omega)).trans (blk_below B5.out HBx.out)); have B118 := Aside0.mk ((ho g10 (ng _ GL10.out)).trans B11.out); have N8 := Aside0.mk (Kd.N_step (Kd.N_below N5.out HBx.out) (fun k hk _ => ho k hk.2)); have F8 := Aside0.mk (Kd.F_step (Kd.F_below F5.out HBx.out) (fun k hk _ => ho k hk.1.2)); have FR8 : Aside0 (Fr w w8 S) := ⟨(FR5.out.below HBx.out).then_ (Fr.stored (S := fun k => k = g) hb ho hs' rfl) (fun k hk => .inl (hk ▸ HSg.out))⟩; have CV8 := Aside0.mk (Kd.F_now (Kd.F_step (Kd.F_below CV.out HBx.out) (fun k hk _ => ho k hk.1.2))); have z3 : w8.cell? ⟨g6, 1, none⟩ = some (.slice Ar rs.length cr) := blk_cell B8.out 1; have z4 : w8.cell? ⟨g10, 0, none⟩ = some (.slice Bv vs.length cv) := blk_cell B118.out 0; clear hA hb ho hs' z2 HG7 B11 N5 F5 FR5 B5)
      | (go_at_call 49; (with_reducible refine (HFit.out _ _ _ FR8.out CV8.out HCV.out).mono ?_); rintro _ w9 ⟨rfl, hb⟩; have HB9 := Aside0.mk hb; have z5 : w9.cell? ⟨g10, 0, none⟩ = some (.slice Bv vs.length cv) := blk_cell (blk_below B118.out hb) 0; clear hb z3 z4)
      | (go_at_call 48; (with_reducible refine (clone_calls (Kd.C_below CV8.out HB9.out) HVS.out).mono ?_); rintro _ wA ⟨Aa, ca, rfl, hR, hb⟩; have RA := Aside0.mk hR; have HBA := Aside0.mk hb; clear hR hb))
    go_ret2
    have HT8 : Kd.F k27 w8 (fun k => (S k ∧ k ≠ g) ∧ some k ≠ (Value.slice A4 (hs.length + 1) c4).ownBlock) (some ad) an.length an := by simpa using HT.out _ F8.out
    have hle : an.length + 1 ≤ 1 := HCA.out
    exact ⟨Aa, ca, w9.heap.size, rfl, Nat.le_trans FR8.out.size HB9.out.size, ((show Hs w8 g (fun k => S k ∨ w.heap.size ≤ k) an (hs ++ [⟨f, args⟩]) from ⟨_, _, _, HG8.out, by omega, .inl HSg.out, Kd.F_mono HT8 (fun k hk => ⟨⟨.inl hk.1.1, hk.1.2⟩, hk.2⟩), N8.out⟩).below HB9.out).bound.below HBA.out, RA.out, (FR8.out.below HB9.out).below HBA.out⟩
  refine ⟨?_⟩
  go_wp2_with (first
    | ((with_reducible refine gate_store (p := 49) rfl ?_); refine storeCell_event (g := g) (j := 0) (x := (.slice (some (ad.add 1)) an.length (cA - 1))) rfl rfl rfl rfl rfl HG7.out (by simp) (by kernel_rfl) rfl ?_; intro w8 hA hb ho hs'; have HG8 : Aside0 (w8.heap[g]? = some (.cells #[(.slice (some (ad.add 1)) an.length (cA - 1)), .slice A4 (hs.length + 1) c4] 110 (0, 0))) := ⟨hA⟩; have ng : ∀ k, w5.heap.size ≤ k → k ≠ g := fun k hk e => (by have := blk_lt HG5.out; omega); have B8 := Aside0.mk ((ho g6 (fun e => by have := GL.out; have := blk_lt HG.out; omega)).trans (blk_below B5.out HBx.out)); have B118 := Aside0.mk ((ho g10 (ng _ GL10.out)).trans B11.out); have N8 := Aside0.mk (Kd.N_step (Kd.N_below N5.out HBx.out) (fun k hk _ => ho k hk.2)); have F8 := Aside0.mk (Kd.F_step (Kd.F_below F5.out HBx.out) (fun k hk _ => ho k hk.1.2)); have FR8 : Aside0 (Fr w w8 S) := ⟨(FR5.out.below HBx.out).then_ (Fr.stored (S := fun k => k = g) hb ho hs' rfl) (fun k hk => .inl (hk ▸ HSg.out))⟩; have CV8 := Aside0.mk (Kd.F_now (Kd.F_step (Kd.F_below CV.out HBx.out) (fun k hk _ => ho k hk.1.2))); have z3 : w8.cell? ⟨g6, 1, none⟩ = some (.slice Ar rs.length cr) := blk_cell B8.out 1; have z4 : w8.cell? ⟨g10, 0, none⟩ = some (.slice Bv vs.length cv) := blk_cell B118.out 0; clear hA hb ho hs' z2 HG7 B11 N5 F5 FR5 B5)
    | (go_at_call 49; (with_reducible refine (HFit.out _ _ _ FR8.out CV8.out HCV.out).mono ?_); rintro _ w9 ⟨rfl, hb⟩; have HB9 := Aside0.mk hb; have z5 : w9.cell? ⟨g10, 0, none⟩ = some (.slice Bv vs.length cv) := blk_cell (blk_below B118.out hb) 0; clear hb z3 z4)
    | (go_at_call 48; (with_reducible refine (clone_calls (Kd.C_below CV8.out HB9.out) HVS.out).mono ?_); rintro _ wA ⟨Aa, ca, rfl, hR, hb⟩; have RA := Aside0.mk hR; have HBA := Aside0.mk hb; clear hR hb))
  go_ret2
  have HT8 : Kd.F k27 w8 (fun k => (S k ∧ k ≠ g) ∧ some k ≠ (Value.slice A4 (hs.length + 1) c4).ownBlock) (some (ad.add 1)) an.length an := by simpa [hc1] using HT.out _ F8.out
  have hle : an.length + 1 ≤ cA := HCA.out
  exact ⟨Aa, ca, w9.heap.size, rfl, Nat.le_trans FR8.out.size HB9.out.size, ((show Hs w8 g (fun k => S k ∨ w.heap.size ≤ k) an (hs ++ [⟨f, args⟩]) from ⟨_, _, _, HG8.out, by omega, .inl HSg.out, Kd.F_mono HT8 (fun k hk => ⟨⟨.inl hk.1.1, hk.1.2⟩, hk.2⟩), N8.out⟩).below HB9.out).bound.below HBA.out, RA.out, (FR8.out.below HB9.out).below HBA.out⟩
end Go.Proofs.Ytmofdpkddimmlaa.ETrace
