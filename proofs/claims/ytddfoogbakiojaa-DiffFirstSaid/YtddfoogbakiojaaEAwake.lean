/-
  peloruslaw27.awake answers true.
-/
import Derived.Test.YtddfoogbakiojaaEObs
import Derived.Test.YtddfoogbakiojaaWHand
import Derived.Test.YtddfoogbakiojaaFx5
namespace Go.Proofs.Ytddfoogbakiojaa.EObs
open Go Go.RowKit Go.Proofs.Ytddfoogbakiojaa.F Go.Proofs.Ytddfoogbakiojaa.PureObs Go.Proofs.YtddfoogbakiojaaW.Hand Go.Proofs.YtddfoogbakiojaaW.PrintWords Go.Proofs.YtddfoogbakiojaaW.PrintLast Go.Proofs.YtddfoogbakiojaaW.PrintMore
set_option linter.unusedVariables false
set_option linter.unusedSimpArgs false

theorem C_one {W : World} {g : Nat} {x y : Int} (h : W.heap[g]? = some (.cells #[.int .i64 x, .int .i64 y] 29 (0, 0))) : k29.C W (some ⟨g, 0, none⟩) [(⟨x, y⟩ : S29)].length [⟨x, y⟩] := by
  refine ⟨rfl, by simp, fun _ => ⟨_, rfl, fun j p hp => ?_⟩⟩
  cases j with
  | zero =>
    obtain rfl : (⟨x, y⟩ : S29) = p := by simpa using hp
    refine ⟨[.int .i64 x, .int .i64 y], rfl, k29_mk W ⟨x, y⟩, fun i u hu => ?_⟩
    rw [add_plain, blk_cell h]
    simpa using hu
  | succ j => simp at hp
theorem C_int {W : World} {g : Nat} {x : Int} {t : TypeId} (h : W.heap[g]? = some (.cells #[.int .i64 x] t (0, 0))) : (Kd.int .i64).C W (some ⟨g, 0, none⟩) [x].length [x] := by
  refine ⟨rfl, by simp, fun _ => ⟨_, rfl, fun j p hp => ?_⟩⟩
  cases j with
  | zero =>
    obtain rfl : x = p := by simpa using hp
    refine ⟨[.int .i64 x], rfl, rfl, fun i u hu => ?_⟩
    rw [add_plain, blk_cell h]
    simpa using hu
  | succ j => simp at hp
def oneObs (b : Int) : Obs := ⟨0, ⟨0, 0, []⟩, [], ByteArray.empty, [⟨127, b⟩], [], []⟩
theorem oneObs_K {W : World} {g : Nat} {b : Int} (h : W.heap[g]? = some (.cells #[.int .i64 127, .int .i64 b] 29 (0, 0))) : kObs.K W (oneObs b) [.int .i64 0, .int .i64 0, .int .i64 0, .slice none 0 0, .slice none 0 0, .string ByteArray.empty, .slice (some ⟨g, 0, none⟩) 1 1, .slice none 0 0, .slice none 0 0] :=
  kObs_mk (oneObs b) (Nat.le_refl _) (Nat.le_refl _) (Nat.le_refl _) (Nat.le_refl _) (Nat.le_refl _) (Kd.C_nil _ _) (Kd.C_nil _ _) (C_one h) (Kd.C_nil _ _) (Kd.C_nil _ _)
theorem oneObs_ok (b : Int) : (oneObs b).Ok := ⟨by simp [oneObs, Small], by simp [oneObs, Small], by simp [oneObs], by simp [oneObs, Small], by simp [oneObs, Small], by simp [oneObs, Small], by simp [oneObs]⟩
set_option maxHeartbeats 4000000 in
set_option maxRecDepth 100000 in
theorem awake_calls (w : World) : Calls Try.prog 37 #[] w fun e w' => e = .returned (.bool true) ∧ Below w.heap.size w w' := by
  have hu29 := Try.underlying29
  have hu58 := Try.underlying58
  have hu62 := Try.underlying62
  go_enter Try.func37, Try.ntmps37
  go_wp2_with (first
    | ((with_reducible refine gate_dst (N := 4) rfl ?_); refine lit_event ?hg (N := 4) ?hd (cs := #[.int .i64 127, .int .i64 1]) (t := 29) (n := 1) ?hr ?_; (case hd => rfl); (case hg => rfl); (case hr => first | (go_simp; done) | (go_simp; rfl)); intro g1 hg1 w1 hA hb; have A1 := Aside0.mk hA; have HB := Aside0.mk hb; clear hg1 hA hb)
    | ((with_reducible refine gate_dst (N := 1) rfl ?_); refine box_event ?hg (N := 1) ?hd (cs := #[.int .i64 0, .int .i64 0, .int .i64 0, .slice none 0 0, .slice none 0 0, .string ByteArray.empty, .slice none 0 0, .slice none 0 0, .slice none 0 0]) (t := 58) ?hr ?_; (case hd => rfl); (case hg => rfl); (case hr => first | (go_simp; done) | (go_simp; rfl)); intro ga hga wa hA hb; have GA := Aside0.mk (show w.heap.size ≤ ga by rw [hga]; exact HB.out.size); have hne := Aside0.mk (show g1 ≠ ga by rw [hga]; exact Nat.ne_of_lt (blk_lt A1.out)); have HB1 := Aside0.mk (below_step HB.out hb); have A2 := Aside0.mk (blk_below A1.out hb); have AA := Aside0.mk hA; clear hga hA hb HB A1)
    | ((with_reducible refine gate_store (p := 1) rfl ?_); refine storeRow_event (g := ga) rfl rfl rfl (cs := #[.int .i64 0, .int .i64 0, .int .i64 0, .slice none 0 0, .slice none 0 0, .string ByteArray.empty, .slice (some ⟨g1, 0, none⟩) 1 1, .slice none 0 0, .slice none 0 0]) rfl rfl AA.out (by kernel_rfl) rfl (by simp [Value.oneCell']) ?_; intro wa2 hA hb ho hs; have A3 := Aside0.mk ((ho g1 hne.out).trans A2.out); have HB2 := Aside0.mk (hb _ _ GA.out HB1.out); have AA2 := Aside0.mk hA; clear hA hb ho hs HB1 A2 AA)
    | ((with_reducible refine gate_dst (N := 7) rfl ?_); refine lit_event ?hg (N := 7) ?hd (cs := #[.int .i64 127, .int .i64 2]) (t := 29) (n := 1) ?hr ?_; (case hd => rfl); (case hg => rfl); (case hr => first | (go_simp; done) | (go_simp; rfl)); intro g2 hg2 w3 hA hb; have B1 := Aside0.mk hA; have HB3 := Aside0.mk (below_step HB2.out hb); have A4 := Aside0.mk (blk_below A3.out hb); have AA3 := Aside0.mk (blk_below AA2.out hb); clear hg2 hA hb HB2 A3 AA2)
    | ((with_reducible refine gate_dst (N := 2) rfl ?_); refine box_event ?hg (N := 2) ?hd (cs := #[.int .i64 0, .int .i64 0, .int .i64 0, .slice none 0 0, .slice none 0 0, .string ByteArray.empty, .slice none 0 0, .slice none 0 0, .slice none 0 0]) (t := 58) ?hr ?_; (case hd => rfl); (case hg => rfl); (case hr => first | (go_simp; done) | (go_simp; rfl)); intro gb hgb wb hA hb; have GB := Aside0.mk (show w.heap.size ≤ gb by rw [hgb]; exact HB3.out.size); have hneg1 := Aside0.mk (show g1 ≠ gb by rw [hgb]; exact Nat.ne_of_lt (blk_lt A4.out)); have hneg2 := Aside0.mk (show g2 ≠ gb by rw [hgb]; exact Nat.ne_of_lt (blk_lt B1.out)); have hnega := Aside0.mk (show ga ≠ gb by rw [hgb]; exact Nat.ne_of_lt (blk_lt AA3.out)); have HB4 := Aside0.mk (below_step HB3.out hb); have A5 := Aside0.mk (blk_below A4.out hb); have AA4 := Aside0.mk (blk_below AA3.out hb); have B2 := Aside0.mk (blk_below B1.out hb); have BB := Aside0.mk hA; clear hgb hA hb HB3 A4 AA3 B1)
    | ((with_reducible refine gate_store (p := 2) rfl ?_); refine storeRow_event (g := gb) rfl rfl rfl (cs := #[.int .i64 0, .int .i64 0, .int .i64 0, .slice none 0 0, .slice none 0 0, .string ByteArray.empty, .slice (some ⟨g2, 0, none⟩) 1 1, .slice none 0 0, .slice none 0 0]) rfl rfl BB.out (by kernel_rfl) rfl (by simp [Value.oneCell']) ?_; intro wc hA hb ho hs; have A6 := Aside0.mk ((ho g1 hneg1.out).trans A5.out); have AA5 := Aside0.mk ((ho ga hnega.out).trans AA4.out); have B3 := Aside0.mk ((ho g2 hneg2.out).trans B2.out); have HB5 := Aside0.mk (hb _ _ GB.out HB4.out); have BB2 := Aside0.mk hA; clear hA hb ho hs HB4 A5 AA4 B2 BB)
    | ((with_reducible refine gate_dst (N := 9) rfl ?_); refine hold ?_))
  refine ⟨?_⟩
  have hy : Below wc.heap.size wc wc := Below.refl _ _
  have x0_0 : ∀ W, Below wc.heap.size wc W → W.cell? ⟨ga, 0, none⟩ = some (.int .i64 0) := fun W hb => pw_cell_below hb (blk_cell AA5.out 0)
  have x0_1 : ∀ W, Below wc.heap.size wc W → W.cell? ⟨ga, 1, none⟩ = some (.int .i64 0) := fun W hb => pw_cell_below hb (blk_cell AA5.out 1)
  have x0_2 : ∀ W, Below wc.heap.size wc W → W.cell? ⟨ga, 2, none⟩ = some (.int .i64 0) := fun W hb => pw_cell_below hb (blk_cell AA5.out 2)
  have x0_3 : ∀ W, Below wc.heap.size wc W → W.cell? ⟨ga, 3, none⟩ = some (.slice none 0 0) := fun W hb => pw_cell_below hb (blk_cell AA5.out 3)
  have x0_4 : ∀ W, Below wc.heap.size wc W → W.cell? ⟨ga, 4, none⟩ = some (.slice none 0 0) := fun W hb => pw_cell_below hb (blk_cell AA5.out 4)
  have x0_5 : ∀ W, Below wc.heap.size wc W → W.cell? ⟨ga, 5, none⟩ = some (.string ByteArray.empty) := fun W hb => pw_cell_below hb (blk_cell AA5.out 5)
  have x0_6 : ∀ W, Below wc.heap.size wc W → W.cell? ⟨ga, 6, none⟩ = some (.slice (some ⟨g1, 0, none⟩) 1 1) := fun W hb => pw_cell_below hb (blk_cell AA5.out 6)
  have x0_7 : ∀ W, Below wc.heap.size wc W → W.cell? ⟨ga, 7, none⟩ = some (.slice none 0 0) := fun W hb => pw_cell_below hb (blk_cell AA5.out 7)
  have x0_8 : ∀ W, Below wc.heap.size wc W → W.cell? ⟨ga, 8, none⟩ = some (.slice none 0 0) := fun W hb => pw_cell_below hb (blk_cell AA5.out 8)
  have x1_0 : ∀ W, Below wc.heap.size wc W → W.cell? ⟨gb, 0, none⟩ = some (.int .i64 0) := fun W hb => pw_cell_below hb (blk_cell BB2.out 0)
  have x1_1 : ∀ W, Below wc.heap.size wc W → W.cell? ⟨gb, 1, none⟩ = some (.int .i64 0) := fun W hb => pw_cell_below hb (blk_cell BB2.out 1)
  have x1_2 : ∀ W, Below wc.heap.size wc W → W.cell? ⟨gb, 2, none⟩ = some (.int .i64 0) := fun W hb => pw_cell_below hb (blk_cell BB2.out 2)
  have x1_3 : ∀ W, Below wc.heap.size wc W → W.cell? ⟨gb, 3, none⟩ = some (.slice none 0 0) := fun W hb => pw_cell_below hb (blk_cell BB2.out 3)
  have x1_4 : ∀ W, Below wc.heap.size wc W → W.cell? ⟨gb, 4, none⟩ = some (.slice none 0 0) := fun W hb => pw_cell_below hb (blk_cell BB2.out 4)
  have x1_5 : ∀ W, Below wc.heap.size wc W → W.cell? ⟨gb, 5, none⟩ = some (.string ByteArray.empty) := fun W hb => pw_cell_below hb (blk_cell BB2.out 5)
  have x1_6 : ∀ W, Below wc.heap.size wc W → W.cell? ⟨gb, 6, none⟩ = some (.slice (some ⟨g2, 0, none⟩) 1 1) := fun W hb => pw_cell_below hb (blk_cell BB2.out 6)
  have x1_7 : ∀ W, Below wc.heap.size wc W → W.cell? ⟨gb, 7, none⟩ = some (.slice none 0 0) := fun W hb => pw_cell_below hb (blk_cell BB2.out 7)
  have x1_8 : ∀ W, Below wc.heap.size wc W → W.cell? ⟨gb, 8, none⟩ = some (.slice none 0 0) := fun W hb => pw_cell_below hb (blk_cell BB2.out 8)
  have K1 := Aside0.mk (fun W (h : Below wc.heap.size wc W) => oneObs_K (blk_below A6.out h))
  have K2 := Aside0.mk (fun W (h : Below wc.heap.size wc W) => oneObs_K (blk_below B3.out h))
  have G1 := Aside0.mk (fun W (h : Below wc.heap.size wc W) => C_one (blk_below A6.out h))
  clear A6 AA5 B3 BB2 GA GB hne hneg1 hneg2 hnega
  have C1 : Aside0 (∀ W, Below wc.heap.size wc W → Calls Try.prog 35 #[.agg #[.int .i64 0, .int .i64 0, .int .i64 0, .slice none 0 0, .slice none 0 0, .string ByteArray.empty, .slice (some ⟨g1, 0, none⟩) 1 1, .slice none 0 0, .slice none 0 0], .agg #[.int .i64 0, .int .i64 0, .int .i64 0, .slice none 0 0, .slice none 0 0, .string ByteArray.empty, .slice (some ⟨g1, 0, none⟩) 1 1, .slice none 0 0, .slice none 0 0]] W fun e w' => e = .returned (.int .i64 0) ∧ Below W.heap.size W w') := ⟨fun W h => diff_calls_v (unl_self (oneObs 1)) (K1.out W h) (K1.out W h) (oneObs_ok 1)⟩
  have C2 : Aside0 (∀ W, Below wc.heap.size wc W → Calls Try.prog 35 #[.agg #[.int .i64 0, .int .i64 0, .int .i64 0, .slice none 0 0, .slice none 0 0, .string ByteArray.empty, .slice (some ⟨g1, 0, none⟩) 1 1, .slice none 0 0, .slice none 0 0], .agg #[.int .i64 0, .int .i64 0, .int .i64 0, .slice none 0 0, .slice none 0 0, .string ByteArray.empty, .slice (some ⟨g2, 0, none⟩) 1 1, .slice none 0 0, .slice none 0 0]] W fun e w' => e = .returned (.int .i64 5) ∧ Below W.heap.size W w') := ⟨fun W h => diff_calls_v (show unl (oneObs 1) (oneObs 2) = 5 by decide +kernel) (K1.out W h) (K2.out W h) (oneObs_ok 1)⟩
  have C3 : Aside0 (∀ W, Below wc.heap.size wc W → Calls Try.prog 36 #[.agg #[.int .i64 0, .int .i64 0, .int .i64 0, .slice none 0 0, .slice none 0 0, .string ByteArray.empty, .slice (some ⟨g1, 0, none⟩) 1 1, .slice none 0 0, .slice none 0 0], .agg #[.int .i64 0, .int .i64 0, .int .i64 0, .slice none 0 0, .slice none 0 0, .string ByteArray.empty, .slice (some ⟨g2, 0, none⟩) 1 1, .slice none 0 0, .slice none 0 0]] W fun e w' => e = .returned (.int .i64 5) ∧ Below W.heap.size W w') := ⟨fun W h => unlike_calls_v (show unl (oneObs 1) (oneObs 2) = 5 by decide +kernel) (K1.out W h) (K2.out W h) (oneObs_ok 1)⟩
  clear K1 K2
  go_wp2_with (first
    | (go_at_call 35; (with_reducible refine (C1.out _ (by assumption)).mono ?_); rintro e w' ⟨rfl, hb⟩; have hy0 := hy; clear hy; have hy : Below wc.heap.size wc w' := below_step hy0 hb; clear hb hy0)
    | (go_at_call 35; (with_reducible refine (C2.out _ (by assumption)).mono ?_); rintro e w' ⟨rfl, hb⟩; have hy0 := hy; clear hy; have hy : Below wc.heap.size wc w' := below_step hy0 hb; clear hb hy0)
    | (go_at_call 36; (with_reducible refine (C3.out _ (by assumption)).mono ?_); rintro e w' ⟨rfl, hb⟩; have hy0 := hy; clear hy; have hy : Below wc.heap.size wc w' := below_step hy0 hb; clear hb hy0)
    | ((with_reducible refine gate_dst (N := 20) rfl ?_); (try (refine gate_guard (by rfl) ?_; dsimp only)); refine lit_event ?hg (N := 20) ?hd (cs := #[.int .i64 127]) (t := 3) (n := 1) ?hr ?_; (case hd => rfl); (case hg => rfl); (case hr => first | (go_simp; done) | (go_simp; rfl)); intro g3 hg3 w4 hA hb; have I1 := Aside0.mk (fun W (h : Below w4.heap.size w4 W) => C_int (blk_below hA h)); have hy0 := hy; clear hy; have hy : Below wc.heap.size wc w4 := below_step hy0 hb; have hz : Below w4.heap.size w4 w4 := Below.refl _ _; clear hb hy0 hg3 hA)
    | (go_at_call 39; refine (obs_Values.calls 100 _ _ ([] : List Int) _ _ ([127] : List Int) _ _ [(⟨127, 1⟩ : S29)] true _ (Kd.C_nil _ _) (Nat.le_refl _) (I1.out _ (by assumption)) (Nat.le_refl _) (G1.out _ (by assumption)) (Nat.le_refl _) (by decide +kernel)).mono ?_; rintro e w' ⟨rfl, hb⟩; have hy0 := hy; clear hy; have hy : Below wc.heap.size wc w' := below_step hy0 hb; clear hb hy0 I1 hz)
    | (go_at_call 39; refine (obs_Values.calls 100 _ _ ([] : List Int) _ _ ([] : List Int) _ _ [(⟨127, 1⟩ : S29)] false _ (Kd.C_nil _ _) (Nat.le_refl _) (Kd.C_nil _ _) (Nat.le_refl _) (G1.out _ (by assumption)) (Nat.le_refl _) (by decide +kernel)).mono ?_; rintro e w' ⟨rfl, hb⟩; have hy0 := hy; clear hy; have hy : Below wc.heap.size wc w' := below_step hy0 hb; clear hb hy0))
  go_ret
  exact ⟨rfl, below_step HB5.out (by assumption)⟩
end Go.Proofs.Ytddfoogbakiojaa.EObs
