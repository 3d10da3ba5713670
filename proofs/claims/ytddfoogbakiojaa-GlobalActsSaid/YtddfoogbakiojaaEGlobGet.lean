/-
  The contracts of pelorus/globals: Get, Set.
-/
import Derived.Test.YtddfoogbakiojaaEGlob
namespace Go.Proofs.Ytddfoogbakiojaa.EGlob
open Go Go.RowKit Go.Proofs.Ytddfoogbakiojaa.F Go.Proofs.Ytddfoogbakiojaa.PureVals Go.Proofs.YtddfoogbakiojaaW.Hand Go.Proofs.YtddfoogbakiojaaW.PrintWords Go.Proofs.YtddfoogbakiojaaW.PrintLast Go.Proofs.YtddfoogbakiojaaW.PrintMore
set_option linter.unusedVariables false
set_option linter.unusedSimpArgs false

def zG : Gl := ⟨0, 0, false⟩
def rdG (xs : List Gl) (i : Int) : Gl := xs.getD i.toNat zG
theorem at_G {w : World} {A : Option Addr} {n : Nat} {xs : List Gl} (h : Kd.C kG w A n xs) (i : Int) (h0 : 0 ≤ i) (h1 : i < n) : ∃ ad, A = some ad ∧ w.cell? (ad.add (i.toNat * 3)) = some (.int .i64 (rdG xs i).ty) ∧ w.cell? ⟨(ad.add (i.toNat * 3)).block, (ad.add (i.toNat * 3)).off + 1, none⟩ = some (.int .i64 (rdG xs i).bits) ∧ w.cell? ⟨(ad.add (i.toNat * 3)).block, (ad.add (i.toNat * 3)).off + 2, none⟩ = some (.bool (rdG xs i).mt) := by
  obtain ⟨ad, c, e, _, hK, hc0⟩ := Kd.C_get h zG i h0 h1
  have hc : ∀ j u, c[j]? = some u → w.cell? (ad.add (i.toNat * 3 + j)) = some u := hc0
  obtain rfl := kG_open hK
  exact ⟨ad, e, hc 0 _ rfl, by rw [← add_field _ _ 1 (by omega)]; exact hc 1 _ rfl, by rw [← add_field _ _ 2 (by omega)]; exact hc 2 _ rfl⟩
/-- A row's element, where the row begins at its block's head. -/
theorem at_R {w : World} {S : Nat → Prop} {A : Option Addr} {n c : Nat} {xs : List Gl} (h : kG.R 75 w 0 S (.slice A n c) xs) (i : Int) (h0 : 0 ≤ i) (h1 : i < xs.length) : ∃ ga, A = some ⟨ga, 0, none⟩ ∧ S ga ∧ w.cell? ⟨ga, i.toNat * 3, none⟩ = some (.int .i64 (rdG xs i).ty) ∧ w.cell? ⟨ga, i.toNat * 3 + 1, none⟩ = some (.int .i64 (rdG xs i).bits) ∧ w.cell? ⟨ga, i.toNat * 3 + 2, none⟩ = some (.bool (rdG xs i).mt) := by
  obtain ⟨hn, _, hC⟩ := Kd.R_reads' h
  obtain ⟨ad, rfl, e1, e2, e3⟩ := at_G hC i h0 (by omega)
  obtain ⟨ga, rfl⟩ := Kd.R_head h
  rw [add_plain] at e1 e2 e3
  exact ⟨ga, rfl, h.1 ga (by simp [Value.ownBlock]), e1, e2, e3⟩
set_option maxHeartbeats 1000000 in
theorem get_neg {w : World} {g : Nat} {S : Nat → Prop} {xs : List Gl} {k : Int} (h : Gs w g S xs) (hk : k < 0) :
    Calls Try.prog 27 #[.pointer (some ⟨g, 0, none⟩), .int .i64 k] w fun e w' => e = .returned (.tuple #[.agg #[.int .i64 0, .int .i64 0], .int .i64 1000]) ∧ Below w.heap.size w w' := by
  have d1 : decide (k < 0) = true := by simpa using hk
  clear hk
  have hu29 := Try.underlying29
  have hu75 := Try.underlying75
  have hu70 := Try.underlying70
  have hu72 := Try.underlying72
  have hm : xs.length ≤ 9223372036854775807 := by
    obtain ⟨v, hg, hS, hR⟩ := h
    obtain ⟨A, c, rfl, _, hC⟩ := Kd.R_reads hR
    exact Kd.C_max hC
  obtain ⟨v, hg, hS, hR⟩ := h
  obtain ⟨A, c, rfl⟩ := Kd.R_slice hR
  have HG := Aside0.mk hg
  have HR := Aside0.mk hR
  clear hg hS hR
  go_enter Try.func27, Try.ntmps27
  go_wp2_with (first
    | ((with_reducible refine gate_dst (N := 4) rfl ?_); refine box_event ?hg (N := 4) ?hd (cs := #[.int .i64 0, .int .i64 0]) (t := 29) ?hr ?_; (case hd => rfl); (case hg => rfl); (case hr => first | (go_simp; done) | (go_simp; rfl)); intro gb hggb w1 hA hb; have GL := Aside0.mk (show w.heap.size ≤ gb by rw [hggb]; exact Nat.le_refl _); have HB := Aside0.mk hb; have BB := Aside0.mk hA; have y2 : w1.cell? ⟨g, 0, none⟩ = some (.slice A xs.length c) := pw_cell_below hb (blk_cell HG.out 0); clear hA hb hggb)
    | ((with_reducible refine gate_store (p := 4) rfl ?_); refine storeRow_event (g := gb) rfl rfl rfl (cs := #[.int .i64 0, .int .i64 0]) rfl rfl BB.out (by kernel_rfl) rfl (by simp [Value.oneCell']) ?_; intro w2 hA hb ho hs; have HB2 : Aside0 (Below w.heap.size w w2) := ⟨hb _ _ GL.out HB.out⟩; have z0 := blk_cell hA 0; have z1 := blk_cell hA 1; clear hA hb ho hs BB))
  refine bodyPost_ret (v := .tuple #[.agg #[.int .i64 0, .int .i64 0], .int .i64 1000]) (by simp [results, Try.results27, go_sem, z0, z1]) rfl ⟨rfl, HB2.out⟩
set_option maxHeartbeats 1000000 in
theorem get_big {w : World} {g : Nat} {S : Nat → Prop} {xs : List Gl} {k : Int} (h : Gs w g S xs) (hk : (xs.length : Int) ≤ k) :
    Calls Try.prog 27 #[.pointer (some ⟨g, 0, none⟩), .int .i64 k] w fun e w' => e = .returned (.tuple #[.agg #[.int .i64 0, .int .i64 0], .int .i64 1000]) ∧ Below w.heap.size w w' := by
  have d1 : decide (k < 0) = false := by simp; omega
  have d2 : decide (k ≥ (xs.length : Int)) = true := by simpa using hk
  clear hk
  have hu29 := Try.underlying29
  have hu75 := Try.underlying75
  have hu70 := Try.underlying70
  have hu72 := Try.underlying72
  have hm : xs.length ≤ 9223372036854775807 := by
    obtain ⟨v, hg, hS, hR⟩ := h
    obtain ⟨A, c, rfl, _, hC⟩ := Kd.R_reads hR
    exact Kd.C_max hC
  obtain ⟨v, hg, hS, hR⟩ := h
  obtain ⟨A, c, rfl⟩ := Kd.R_slice hR
  have HG := Aside0.mk hg
  have HR := Aside0.mk hR
  clear hg hS hR
  go_enter Try.func27, Try.ntmps27
  go_wp2_with (first
    | ((with_reducible refine gate_dst (N := 4) rfl ?_); refine box_event ?hg (N := 4) ?hd (cs := #[.int .i64 0, .int .i64 0]) (t := 29) ?hr ?_; (case hd => rfl); (case hg => rfl); (case hr => first | (go_simp; done) | (go_simp; rfl)); intro gb hggb w1 hA hb; have GL := Aside0.mk (show w.heap.size ≤ gb by rw [hggb]; exact Nat.le_refl _); have HB := Aside0.mk hb; have BB := Aside0.mk hA; have y2 : w1.cell? ⟨g, 0, none⟩ = some (.slice A xs.length c) := pw_cell_below hb (blk_cell HG.out 0); clear hA hb hggb)
    | ((with_reducible refine gate_store (p := 4) rfl ?_); refine storeRow_event (g := gb) rfl rfl rfl (cs := #[.int .i64 0, .int .i64 0]) rfl rfl BB.out (by kernel_rfl) rfl (by simp [Value.oneCell']) ?_; intro w2 hA hb ho hs; have HB2 : Aside0 (Below w.heap.size w w2) := ⟨hb _ _ GL.out HB.out⟩; have z0 := blk_cell hA 0; have z1 := blk_cell hA 1; clear hA hb ho hs BB))
  refine bodyPost_ret (v := .tuple #[.agg #[.int .i64 0, .int .i64 0], .int .i64 1000]) (by simp [results, Try.results27, go_sem, z0, z1]) rfl ⟨rfl, HB2.out⟩
set_option maxHeartbeats 1000000 in
theorem get_in {w : World} {g : Nat} {S : Nat → Prop} {xs : List Gl} {k : Int} (h : Gs w g S xs) (hk0 : 0 ≤ k) (hk : k < xs.length) :
    Calls Try.prog 27 #[.pointer (some ⟨g, 0, none⟩), .int .i64 k] w fun e w' => e = .returned (.tuple #[.agg #[.int .i64 (rdG xs k).ty, .int .i64 (rdG xs k).bits], .int .i64 0]) ∧ Below w.heap.size w w' := by
  have d1 : decide (k < 0) = false := by simp; omega
  have d2 : decide (k ≥ (xs.length : Int)) = false := by simp; omega
  have hu29 := Try.underlying29
  have hu75 := Try.underlying75
  have hu70 := Try.underlying70
  have hu72 := Try.underlying72
  have hm : xs.length ≤ 9223372036854775807 := by
    obtain ⟨v, hg, hS, hR⟩ := h
    obtain ⟨A, c, rfl, _, hC⟩ := Kd.R_reads hR
    exact Kd.C_max hC
  obtain ⟨v, hg, hS, hR⟩ := h
  obtain ⟨A, c, rfl⟩ := Kd.R_slice hR
  have HG := Aside0.mk hg
  have HR := Aside0.mk hR
  clear hg hS hR
  obtain ⟨ga, rfl, hga, e1, e2, e3⟩ := at_R HR.out k hk0 hk
  have E1 := Aside0.mk e1
  have E2 := Aside0.mk e2
  clear e1 e2 e3 hga
  go_enter Try.func27, Try.ntmps27
  go_wp2_with (first
    | ((with_reducible refine gate_dst (N := 4) rfl ?_); refine box_event ?hg (N := 4) ?hd (cs := #[.int .i64 0, .int .i64 0]) (t := 29) ?hr ?_; (case hd => rfl); (case hg => rfl); (case hr => first | (go_simp; done) | (go_simp; rfl)); intro gb hggb w1 hA hb; have GL := Aside0.mk (show w.heap.size ≤ gb by rw [hggb]; exact Nat.le_refl _); have HB := Aside0.mk hb; have BB := Aside0.mk hA; have y2 : w1.cell? ⟨g, 0, none⟩ = some (.slice (some ⟨ga, 0, none⟩) xs.length c) := pw_cell_below hb (blk_cell HG.out 0); have y3 : w1.cell? ⟨ga, k.toNat * 3, none⟩ = some (.int .i64 (rdG xs k).ty) := pw_cell_below hb E1.out; have y4 : w1.cell? ⟨ga, k.toNat * 3 + 1, none⟩ = some (.int .i64 (rdG xs k).bits) := pw_cell_below hb E2.out; clear hA hb hggb)
    | ((with_reducible refine gate_store (p := 4) rfl ?_); refine storeRow_event (g := gb) rfl rfl rfl (cs := #[.int .i64 (rdG xs k).ty, .int .i64 (rdG xs k).bits]) rfl rfl BB.out (by kernel_rfl) rfl (by simp [Value.oneCell']) ?_; intro w2 hA hb ho hs; have HB2 : Aside0 (Below w.heap.size w w2) := ⟨hb _ _ GL.out HB.out⟩; have z0 := blk_cell hA 0; have z1 := blk_cell hA 1; clear hA hb ho hs BB))
  refine bodyPost_ret (v := .tuple #[.agg #[.int .i64 (rdG xs k).ty, .int .i64 (rdG xs k).bits], .int .i64 0]) (by simp [results, Try.results27, go_sem, z0, z1]) rfl ⟨rfl, HB2.out⟩
end Go.Proofs.Ytddfoogbakiojaa.EGlob
