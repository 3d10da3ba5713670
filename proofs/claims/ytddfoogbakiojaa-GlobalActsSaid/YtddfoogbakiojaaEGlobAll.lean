/-
  The contracts of pelorus/globals: All; of the laws' own SpoilVals.
-/
import Derived.Test.YtddfoogbakiojaaEGlobGet
namespace Go.Proofs.Ytddfoogbakiojaa.EGlob
open Go Go.RowKit Go.Proofs.Ytddfoogbakiojaa.F Go.Proofs.Ytddfoogbakiojaa.PureVals Go.Proofs.YtddfoogbakiojaaW.Hand Go.Proofs.YtddfoogbakiojaaW.PrintWords Go.Proofs.YtddfoogbakiojaaW.PrintLast Go.Proofs.YtddfoogbakiojaaW.PrintMore
set_option linter.unusedVariables false
set_option linter.unusedSimpArgs false

def valOf (x : Gl) : S29 := ⟨x.ty, x.bits⟩
theorem C_val {W : World} {gl : Nat} {x y : Int} (h : W.heap[gl]? = some (.cells #[.int .i64 x, .int .i64 y] 29 (0, 0))) : k29.C W (some ⟨gl, 0, none⟩) 1 [(⟨x, y⟩ : S29)] := by
  refine ⟨rfl, by simp, fun _ => ⟨_, rfl, fun j p hp => ?_⟩⟩
  cases j with
  | zero =>
    obtain rfl : (⟨x, y⟩ : S29) = p := by simpa using hp
    refine ⟨[.int .i64 x, .int .i64 y], rfl, k29_mk W ⟨x, y⟩, fun i u hu => ?_⟩
    rw [add_plain, blk_cell h]
    simpa using hu
  | succ j => simp at hp
theorem take_succ_map (xs : List Gl) (i : Nat) (h : i < xs.length) : (xs.take i).map valOf ++ [valOf (rdG xs i)] = (xs.take (i + 1)).map valOf := by
  rw [List.take_succ_eq_append_getElem h, List.map_append]
  congr 1
  simp [rdG, List.getD_eq_getElem?_getD, h]
def RelAll (w : World) (xs : List Gl) (n : Nat) (v3 v13 : Value) (wr : World) : Prop := ∃ i : Nat, i + n = xs.length ∧ v13 = .int .i64 i ∧ k29.R 29 wr w.heap.size (fun _ => True) v3 ((xs.take i).map valOf) ∧ Below w.heap.size w wr
set_option maxHeartbeats 4000000 in
theorem all_calls {w : World} {g : Nat} {S : Nat → Prop} {xs : List Gl} (h : Gs w g S xs) (hlen : xs.length ≤ 1024) :
    Calls Try.prog 32 #[.pointer (some ⟨g, 0, none⟩)] w fun e w' => ∃ v, e = .returned v ∧ k29.R 29 w' w.heap.size (fun _ => True) v (xs.map valOf) ∧ Below w.heap.size w w' := by
  have hu29 := Try.underlying29
  have hu75 := Try.underlying75
  have hu70 := Try.underlying70
  have hu72 := Try.underlying72
  have hu37 := Try.underlying37
  obtain ⟨v, hg, hS, hR⟩ := h
  obtain ⟨A, c, rfl⟩ := Kd.R_slice hR
  have HG := Aside0.mk hg
  have HR := Aside0.mk hR
  have HL := Aside0.mk hlen
  have y2 : w.cell? ⟨g, 0, none⟩ = some (.slice A xs.length c) := blk_cell hg 0
  have hm : xs.length ≤ 9223372036854775807 := by omega
  clear hg hS hR hlen
  go_enter Try.func32, Try.ntmps32
  go_wp2
  go_loopg [3, 13] xs.length (fun n v3 v13 wr => RelAll w xs n v3 v13 wr)
  case atStart => exact ⟨0, by omega, rfl, Kd.R_nil _ _ _ _ _, by first | exact Below.refl _ _ | exact below_drew (Below.refl _ _)⟩
  case round =>
    obtain ⟨i, hi, rfl, hR, hb⟩ := hrel
    have R3 := Aside0.mk hR
    have HB := Aside0.mk hb
    have I3 := Aside0.mk hi
    clear hR hb hi y2
    by_cases hlt : i < xs.length
    · obtain ⟨ga, rfl, hga, e1, e2, e3⟩ := at_R HR.out (i : Int) (by omega) (by omega)
      have dl : decide (i < xs.length) = true := by simpa using hlt
      have HLT := Aside0.mk hlt
      have z1 : wr.cell? ⟨ga, i * 3, none⟩ = some (.int .i64 (rdG xs i).ty) := pw_cell_below HB.out e1
      have z2 : wr.cell? ⟨ga, i * 3 + 1, none⟩ = some (.int .i64 (rdG xs i).bits) := pw_cell_below HB.out e2
      have z3 : wr.cell? ⟨ga, i * 3 + 2, none⟩ = some (.bool (rdG xs i).mt) := pw_cell_below HB.out e3
      obtain ⟨A3, c3, hv3⟩ := Kd.R_slice R3.out
      rw [show ((xs.take i).map valOf).length = i by simp; omega] at hv3
      subst hv3
      clear e1 e2 e3 hga
      go_wp2_with (first
        | ((with_reducible refine gate_dst (N := 5) rfl ?_); refine box_event ?hg (N := 5) ?hd (cs := #[.int .i64 0, .int .i64 0, .bool false]) (t := 75) ?hr ?_; (case hd => rfl); (case hg => rfl); (case hr => first | (go_simp; done) | (go_simp; rfl)); intro g5 hgg5 w2 hA hb; have GL := Aside0.mk (show wr.heap.size ≤ g5 by rw [hgg5]; exact Nat.le_refl _); have HB2 := Aside0.mk (below_step HB.out hb); have B5 := Aside0.mk hA; have HBX := Aside0.mk hb; clear hA hb hgg5)
        | ((with_reducible refine gate_store (p := 5) rfl ?_); refine storeRow_event (g := g5) rfl rfl rfl (cs := #[.int .i64 (rdG xs i).ty, .int .i64 (rdG xs i).bits, .bool (rdG xs i).mt]) rfl rfl B5.out (by kernel_rfl) rfl (by simp [Value.oneCell']) ?_; intro w3 hA hb ho hs; have HB3 := Aside0.mk (hb _ _ (Nat.le_trans HB.out.size GL.out) HB2.out); have q1 : w3.cell? ⟨g5, 0, none⟩ = some (.int .i64 (rdG xs i).ty) := blk_cell hA 0; have q2 : w3.cell? ⟨g5, 1, none⟩ = some (.int .i64 (rdG xs i).bits) := blk_cell hA 1; have R5 := Aside0.mk (Kd.R_mono (Kd.R_step (Kd.R_mono (Kd.R_bound R3.out) (ok' := fun k => k < wr.heap.size) (fun k hk => hk.2.2.1)) (w1 := w3) (fun k hk hlt => (ho k (Nat.ne_of_lt (Nat.lt_of_lt_of_le hk GL.out))).trans (HBX.out.block k hk))) (ok' := fun _ => True) (fun _ _ => trivial)); clear hA hb ho hs B5)
        | ((with_reducible refine gate_dst (N := 20) rfl ?_); refine lit_event ?hg (N := 20) ?hd (cs := #[.int .i64 (rdG xs i).ty, .int .i64 (rdG xs i).bits]) (t := 29) (n := 1) ?hr ?_; (case hd => rfl); (case hg => rfl); (case hr => first | (go_simp; done) | (go_simp; rfl)); intro gl hggl w4 hA hb; have HB4 := Aside0.mk (below_step HB3.out hb); have CL := Aside0.mk (C_val hA); have R6 := Aside0.mk (Kd.R_below R5.out hb); clear hA hb hggl)
        | ((with_reducible refine gate_dst (N := 21) rfl ?_); refine Kd.R_append_rows (w0 := w) k29 w.heap.size rfl (.tmp 17) (.tmp 20) 37 29 (.agg #[.int .i64 0, .int .i64 0]) 16 rfl hu37 (by kernel_rfl) rfl (by decide) (by decide) (.slice A3 i c3) ((xs.take i).map valOf) [(⟨(rdG xs i).ty, (rdG xs i).bits⟩ : S29)] (some ⟨gl, 0, none⟩) 1 1 (fun _ => True) (fun _ => False) ?h1 ?h2 R6.out CL.out (fun x cs hk => by rw [k29_open hk]; exact k29_mkM _ _ _ _) (fun _ hk => hk.elim) (fun _ _ => trivial) HB4.out HB4.out.size (by have := HL.out; have := HLT.out; simp; omega) ?_; (case h1 => first | rfl | (simp; done)); (case h2 => rfl); intro v1 w5 hR hb _ _; have RZ := Aside0.mk hR; have HBZ := Aside0.mk hb; clear hR hb))
      go_roundg (xs.length - (i + 1))
      case measure => have := I3.out; have := HLT.out; omega
      case rel => exact ⟨i + 1, by have := HLT.out; omega, by go_num, by have := RZ.out; rw [← take_succ_map xs i HLT.out]; exact this, HBZ.out⟩
    · have dl : decide (i < xs.length) = false := by simpa using hlt
      have hin : i = xs.length := by have := I3.out; omega
      have HIN := Aside0.mk hin
      clear hin hlt
      go_wp2
      go_ret
      exact ⟨_, rfl, by have := R3.out; rwa [List.take_of_length_le (Nat.le_of_eq HIN.out.symm)] at this, HB.out⟩
end Go.Proofs.Ytddfoogbakiojaa.EGlob
