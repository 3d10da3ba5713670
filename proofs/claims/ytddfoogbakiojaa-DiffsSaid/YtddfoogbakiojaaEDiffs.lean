/-
  peloruslaw27.Diffs answers true: obs.Diff and the laws' own Unlike tell the same of any two observations, and nothing of an observation and itself.
-/
import Derived.Test.YtddfoogbakiojaaEAwake
namespace Go.Proofs.Ytddfoogbakiojaa.EObs
open Go Go.RowKit Go.Proofs.Ytddfoogbakiojaa.F Go.Proofs.Ytddfoogbakiojaa.PureObs Go.Proofs.YtddfoogbakiojaaW.Hand Go.Proofs.YtddfoogbakiojaaW.PrintWords Go.Proofs.YtddfoogbakiojaaW.PrintLast Go.Proofs.YtddfoogbakiojaaW.PrintMore
set_option linter.unusedVariables false
set_option linter.unusedSimpArgs false

set_option maxHeartbeats 8000000 in
set_option maxRecDepth 100000 in
theorem diffs_calls {w : World} {a b : Obs} {ca cb : List Value} (ha : kObs.K w a ca) (hb : kObs.K w b cb) : Calls Try.prog 7 #[.agg ca.toArray, .agg cb.toArray] w fun e w' => e = .returned (.bool true) ∧ Below w.heap.size w w' := by
  have hu58 := Try.underlying58
  have CA := Aside0.mk (fun W (h : Below w.heap.size w W) => kObs.K_below h ha)
  have CB := Aside0.mk (fun W (h : Below w.heap.size w W) => kObs.K_below h hb)
  have OA := Aside0.mk (ok_of_K ha)
  have OB := Aside0.mk (ok_of_K hb)
  obtain ⟨A3, Ac3, A4, Ac4, A6, Ac6, A7, Ac7, A8, Ac8, rfl, _⟩ := kObs_open ha
  obtain ⟨B3, Bc3, B4, Bc4, B6, Bc6, B7, Bc7, B8, Bc8, rfl, _⟩ := kObs_open hb
  clear ha hb
  have C1 : Aside0 (∀ W, Below w.heap.size w W → Calls Try.prog 35 #[.agg #[.int .i64 a.e, .int .i64 a.o.f0, .int .i64 a.o.f1, .slice A3 a.o.f2.length Ac3, .slice A4 a.outs.length Ac4, .string a.m, .slice A6 a.g.length Ac6, .slice A7 a.t.length Ac7, .slice A8 a.tr.length Ac8], .agg #[.int .i64 b.e, .int .i64 b.o.f0, .int .i64 b.o.f1, .slice B3 b.o.f2.length Bc3, .slice B4 b.outs.length Bc4, .string b.m, .slice B6 b.g.length Bc6, .slice B7 b.t.length Bc7, .slice B8 b.tr.length Bc8]] W fun e w' => e = .returned (.int .i64 (unl a b)) ∧ Below W.heap.size W w') := ⟨fun W h => diff_calls (CA.out W h) (CB.out W h) OA.out⟩
  have C2 : Aside0 (∀ W, Below w.heap.size w W → Calls Try.prog 36 #[.agg #[.int .i64 a.e, .int .i64 a.o.f0, .int .i64 a.o.f1, .slice A3 a.o.f2.length Ac3, .slice A4 a.outs.length Ac4, .string a.m, .slice A6 a.g.length Ac6, .slice A7 a.t.length Ac7, .slice A8 a.tr.length Ac8], .agg #[.int .i64 b.e, .int .i64 b.o.f0, .int .i64 b.o.f1, .slice B3 b.o.f2.length Bc3, .slice B4 b.outs.length Bc4, .string b.m, .slice B6 b.g.length Bc6, .slice B7 b.t.length Bc7, .slice B8 b.tr.length Bc8]] W fun e w' => e = .returned (.int .i64 (unl a b)) ∧ Below W.heap.size W w') := ⟨fun W h => unlike_calls (CA.out W h) (CB.out W h) OA.out⟩
  have C3 : Aside0 (∀ W, Below w.heap.size w W → Calls Try.prog 35 #[.agg #[.int .i64 b.e, .int .i64 b.o.f0, .int .i64 b.o.f1, .slice B3 b.o.f2.length Bc3, .slice B4 b.outs.length Bc4, .string b.m, .slice B6 b.g.length Bc6, .slice B7 b.t.length Bc7, .slice B8 b.tr.length Bc8], .agg #[.int .i64 a.e, .int .i64 a.o.f0, .int .i64 a.o.f1, .slice A3 a.o.f2.length Ac3, .slice A4 a.outs.length Ac4, .string a.m, .slice A6 a.g.length Ac6, .slice A7 a.t.length Ac7, .slice A8 a.tr.length Ac8]] W fun e w' => e = .returned (.int .i64 (unl b a)) ∧ Below W.heap.size W w') := ⟨fun W h => diff_calls (CB.out W h) (CA.out W h) OB.out⟩
  have C4 : Aside0 (∀ W, Below w.heap.size w W → Calls Try.prog 36 #[.agg #[.int .i64 b.e, .int .i64 b.o.f0, .int .i64 b.o.f1, .slice B3 b.o.f2.length Bc3, .slice B4 b.outs.length Bc4, .string b.m, .slice B6 b.g.length Bc6, .slice B7 b.t.length Bc7, .slice B8 b.tr.length Bc8], .agg #[.int .i64 a.e, .int .i64 a.o.f0, .int .i64 a.o.f1, .slice A3 a.o.f2.length Ac3, .slice A4 a.outs.length Ac4, .string a.m, .slice A6 a.g.length Ac6, .slice A7 a.t.length Ac7, .slice A8 a.tr.length Ac8]] W fun e w' => e = .returned (.int .i64 (unl b a)) ∧ Below W.heap.size W w') := ⟨fun W h => unlike_calls (CB.out W h) (CA.out W h) OB.out⟩
  have C5 : Aside0 (∀ W, Below w.heap.size w W → Calls Try.prog 35 #[.agg #[.int .i64 a.e, .int .i64 a.o.f0, .int .i64 a.o.f1, .slice A3 a.o.f2.length Ac3, .slice A4 a.outs.length Ac4, .string a.m, .slice A6 a.g.length Ac6, .slice A7 a.t.length Ac7, .slice A8 a.tr.length Ac8], .agg #[.int .i64 a.e, .int .i64 a.o.f0, .int .i64 a.o.f1, .slice A3 a.o.f2.length Ac3, .slice A4 a.outs.length Ac4, .string a.m, .slice A6 a.g.length Ac6, .slice A7 a.t.length Ac7, .slice A8 a.tr.length Ac8]] W fun e w' => e = .returned (.int .i64 0) ∧ Below W.heap.size W w') := ⟨fun W h => diff_calls_v (unl_self a) (CA.out W h) (CA.out W h) OA.out⟩
  have C6 : Aside0 (∀ W, Below w.heap.size w W → Calls Try.prog 35 #[.agg #[.int .i64 b.e, .int .i64 b.o.f0, .int .i64 b.o.f1, .slice B3 b.o.f2.length Bc3, .slice B4 b.outs.length Bc4, .string b.m, .slice B6 b.g.length Bc6, .slice B7 b.t.length Bc7, .slice B8 b.tr.length Bc8], .agg #[.int .i64 b.e, .int .i64 b.o.f0, .int .i64 b.o.f1, .slice B3 b.o.f2.length Bc3, .slice B4 b.outs.length Bc4, .string b.m, .slice B6 b.g.length Bc6, .slice B7 b.t.length Bc7, .slice B8 b.tr.length Bc8]] W fun e w' => e = .returned (.int .i64 0) ∧ Below W.heap.size W w') := ⟨fun W h => diff_calls_v (unl_self b) (CB.out W h) (CB.out W h) OB.out⟩
  clear CA CB OA OB
  have HB := Aside0.mk (Below.refl w.heap.size w)
  go_enter Try.func7, Try.ntmps7
  go_wp2_with (first | ((with_reducible refine gate_dst (N := 2) rfl ?_); refine box_event ?hg (N := 2) ?hd (cs := #[.int .i64 a.e, .int .i64 a.o.f0, .int .i64 a.o.f1, .slice A3 a.o.f2.length Ac3, .slice A4 a.outs.length Ac4, .string a.m, .slice A6 a.g.length Ac6, .slice A7 a.t.length Ac7, .slice A8 a.tr.length Ac8]) (t := 58) ?hr ?_; (case hd => rfl); (case hg => rfl); (case hr => first | (go_simp; done) | (go_simp; rfl)); intro ga hga wa hboxa hba; have BA := Aside0.mk hboxa; have HA := Aside0.mk hba; clear hga hboxa hba) | ((with_reducible refine gate_dst (N := 3) rfl ?_); refine box_event ?hg (N := 3) ?hd (cs := #[.int .i64 b.e, .int .i64 b.o.f0, .int .i64 b.o.f1, .slice B3 b.o.f2.length Bc3, .slice B4 b.outs.length Bc4, .string b.m, .slice B6 b.g.length Bc6, .slice B7 b.t.length Bc7, .slice B8 b.tr.length Bc8]) (t := 58) ?hr ?_; (case hd => rfl); (case hg => rfl); (case hr => first | (go_simp; done) | (go_simp; rfl)); intro gb hgb wb hboxb hbb; have BB := Aside0.mk hboxb; have BA2 := Aside0.mk (blk_below BA.out hbb); have HB2 := Aside0.mk (below_step HA.out hbb); clear hgb hboxb hbb))
  have hBw : Aside0 (Below w.heap.size w wb) := ⟨HB2.out⟩
  have hy : Below wb.heap.size wb wb := Below.refl _ _
  have x0_0 : ∀ W, Below wb.heap.size wb W → W.cell? ⟨ga, 0, none⟩ = some (.int .i64 a.e) := fun W hb => pw_cell_below hb (blk_cell BA2.out 0)
  have x0_1 : ∀ W, Below wb.heap.size wb W → W.cell? ⟨ga, 1, none⟩ = some (.int .i64 a.o.f0) := fun W hb => pw_cell_below hb (blk_cell BA2.out 1)
  have x0_2 : ∀ W, Below wb.heap.size wb W → W.cell? ⟨ga, 2, none⟩ = some (.int .i64 a.o.f1) := fun W hb => pw_cell_below hb (blk_cell BA2.out 2)
  have x0_3 : ∀ W, Below wb.heap.size wb W → W.cell? ⟨ga, 3, none⟩ = some (.slice A3 a.o.f2.length Ac3) := fun W hb => pw_cell_below hb (blk_cell BA2.out 3)
  have x0_4 : ∀ W, Below wb.heap.size wb W → W.cell? ⟨ga, 4, none⟩ = some (.slice A4 a.outs.length Ac4) := fun W hb => pw_cell_below hb (blk_cell BA2.out 4)
  have x0_5 : ∀ W, Below wb.heap.size wb W → W.cell? ⟨ga, 5, none⟩ = some (.string a.m) := fun W hb => pw_cell_below hb (blk_cell BA2.out 5)
  have x0_6 : ∀ W, Below wb.heap.size wb W → W.cell? ⟨ga, 6, none⟩ = some (.slice A6 a.g.length Ac6) := fun W hb => pw_cell_below hb (blk_cell BA2.out 6)
  have x0_7 : ∀ W, Below wb.heap.size wb W → W.cell? ⟨ga, 7, none⟩ = some (.slice A7 a.t.length Ac7) := fun W hb => pw_cell_below hb (blk_cell BA2.out 7)
  have x0_8 : ∀ W, Below wb.heap.size wb W → W.cell? ⟨ga, 8, none⟩ = some (.slice A8 a.tr.length Ac8) := fun W hb => pw_cell_below hb (blk_cell BA2.out 8)
  have x1_0 : ∀ W, Below wb.heap.size wb W → W.cell? ⟨gb, 0, none⟩ = some (.int .i64 b.e) := fun W hb => pw_cell_below hb (blk_cell BB.out 0)
  have x1_1 : ∀ W, Below wb.heap.size wb W → W.cell? ⟨gb, 1, none⟩ = some (.int .i64 b.o.f0) := fun W hb => pw_cell_below hb (blk_cell BB.out 1)
  have x1_2 : ∀ W, Below wb.heap.size wb W → W.cell? ⟨gb, 2, none⟩ = some (.int .i64 b.o.f1) := fun W hb => pw_cell_below hb (blk_cell BB.out 2)
  have x1_3 : ∀ W, Below wb.heap.size wb W → W.cell? ⟨gb, 3, none⟩ = some (.slice B3 b.o.f2.length Bc3) := fun W hb => pw_cell_below hb (blk_cell BB.out 3)
  have x1_4 : ∀ W, Below wb.heap.size wb W → W.cell? ⟨gb, 4, none⟩ = some (.slice B4 b.outs.length Bc4) := fun W hb => pw_cell_below hb (blk_cell BB.out 4)
  have x1_5 : ∀ W, Below wb.heap.size wb W → W.cell? ⟨gb, 5, none⟩ = some (.string b.m) := fun W hb => pw_cell_below hb (blk_cell BB.out 5)
  have x1_6 : ∀ W, Below wb.heap.size wb W → W.cell? ⟨gb, 6, none⟩ = some (.slice B6 b.g.length Bc6) := fun W hb => pw_cell_below hb (blk_cell BB.out 6)
  have x1_7 : ∀ W, Below wb.heap.size wb W → W.cell? ⟨gb, 7, none⟩ = some (.slice B7 b.t.length Bc7) := fun W hb => pw_cell_below hb (blk_cell BB.out 7)
  have x1_8 : ∀ W, Below wb.heap.size wb W → W.cell? ⟨gb, 8, none⟩ = some (.slice B8 b.tr.length Bc8) := fun W hb => pw_cell_below hb (blk_cell BB.out 8)
  clear BA BB BA2 HA HB2
  go_region_held3 (fun w' => Below wb.heap.size wb w')
    (first | (with_reducible exact below_drew1 (Below.refl _ _)) | (with_reducible exact below_drew1 (by assumption)) | (with_reducible exact below_step (by assumption) hb) | (with_reducible exact hy))
    (first
      | (go_at_call 35; (with_reducible refine (C1.out _ (below_step hBw.out (by assumption))).mono ?_); rintro e w' ⟨rfl, hb⟩; have hy0 := hy; have hy : Below wb.heap.size wb w' := below_step (by assumption) hb)
      | (go_at_call 36; (with_reducible refine (C2.out _ (below_step hBw.out (by assumption))).mono ?_); rintro e w' ⟨rfl, hb⟩; have hy0 := hy; have hy : Below wb.heap.size wb w' := below_step (by assumption) hb)
      | (go_at_call 35; (with_reducible refine (C3.out _ (below_step hBw.out (by assumption))).mono ?_); rintro e w' ⟨rfl, hb⟩; have hy0 := hy; have hy : Below wb.heap.size wb w' := below_step (by assumption) hb)
      | (go_at_call 36; (with_reducible refine (C4.out _ (below_step hBw.out (by assumption))).mono ?_); rintro e w' ⟨rfl, hb⟩; have hy0 := hy; have hy : Below wb.heap.size wb w' := below_step (by assumption) hb)
      | (go_at_call 35; (with_reducible refine (C5.out _ (below_step hBw.out (by assumption))).mono ?_); rintro e w' ⟨rfl, hb⟩; have hy0 := hy; have hy : Below wb.heap.size wb w' := below_step (by assumption) hb)
      | (go_at_call 35; (with_reducible refine (C6.out _ (below_step hBw.out (by assumption))).mono ?_); rintro e w' ⟨rfl, hb⟩; have hy0 := hy; have hy : Below wb.heap.size wb w' := below_step (by assumption) hb)
      | (go_at_call 37; refine (awake_calls _).mono ?_; rintro e w' ⟨rfl, hb⟩; have hy0 := hy; have hy : Below wb.heap.size wb w' := below_step (by assumption) hb))
  all_goals
    have HS : Below w.heap.size w _ := below_step hBw.out hy
    go_wp2_with fail
    go_ret
    exact ⟨rfl, HS⟩
end Go.Proofs.Ytddfoogbakiojaa.EObs
