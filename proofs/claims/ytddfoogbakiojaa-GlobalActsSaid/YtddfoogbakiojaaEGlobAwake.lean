/-
  peloruslaw10.awake answers true.
-/
import Derived.Test.YtddfoogbakiojaaEGlobSet
import Derived.Test.YtddfoogbakiojaaEGlobAll
namespace Go.Proofs.Ytddfoogbakiojaa.EGlob
open Go Go.RowKit Go.Proofs.Ytddfoogbakiojaa.F Go.Proofs.Ytddfoogbakiojaa.PureVals Go.Proofs.YtddfoogbakiojaaW.Hand Go.Proofs.YtddfoogbakiojaaW.PrintWords Go.Proofs.YtddfoogbakiojaaW.PrintLast Go.Proofs.YtddfoogbakiojaaW.PrintMore
set_option linter.unusedVariables false
set_option linter.unusedSimpArgs false
def S0 (w : World) (k : Nat) : Prop := w.heap.size ≤ k
theorem Gs.lift {w0 w : World} {g : Nat} {xs : List Gl} (h : Gs w g (fun k => S0 w0 k ∨ w.heap.size ≤ k) xs) (hw : w0.heap.size ≤ w.heap.size) : Gs w g (S0 w0) xs := h.mono (fun k hk => hk.elim id (fun h => Nat.le_trans hw h))
theorem Gs.up {w0 w w1 : World} {g : Nat} {xs : List Gl} (h : Gs w1 g (fun k => S0 w0 k ∨ w.heap.size ≤ k) xs) (hw : w0.heap.size ≤ w.heap.size) : Gs w1 g (S0 w0) xs := h.mono (fun k hk => hk.elim id (fun h => Nat.le_trans hw h))
theorem below_fr {w0 w w1 : World} (hb : Below w0.heap.size w0 w) (hf : Fr w w1 (S0 w0)) : Below w0.heap.size w0 w1 :=
  ((Fr.of_below hb (S0 w0)).then_ hf (fun k hk => .inl hk)).to_below (fun k hk => hk)
theorem num_calls (e : Int) (w : World) : Calls Try.prog 28 #[.int .i64 e] w fun r w' => r = .returned (.int .i64 e) ∧ w = w' := by
  go_enter Try.func28, Try.ntmps28
  go_wp2
  go_ret
  exact ⟨rfl, rfl⟩

set_option maxHeartbeats 4000000 in
theorem awake_calls (w : World) : Calls Try.prog 23 #[] w fun e w' => e = .returned (.bool true) ∧ Below w.heap.size w w' := by
  have hu29 := Try.underlying29
  go_enter Try.func23, Try.ntmps23
  go_wp2_with (first
    | (go_at_call 24; (with_reducible refine (new_calls _).mono ?_); rintro e w1 ⟨g, rfl, hg, hb⟩; have HB1 := Aside0.mk hb; have GS1 : Aside0 (Gs w1 g (S0 w) []) := ⟨hg⟩; clear hg hb)
    | (go_at_call 25; (with_reducible refine (add_fits (x := 127) (y := 4) (m := true) GS1.out (by decide) (by decide)).mono ?_); rintro e w2 ⟨rfl, hg, hf⟩; have HB2 := Aside0.mk (below_fr HB1.out hf); have GS2 : Aside0 (Gs w2 g (S0 w) ([⟨127, 4, true⟩] : List Gl)) := ⟨hg.up HB1.out.size⟩; clear HB1 GS1 hg hf)
    | (go_at_call 25; (with_reducible refine (add_fits (x := 124) (y := -1) (m := false) GS2.out (by decide) (by decide)).mono ?_); rintro e w3 ⟨rfl, hg, hf⟩; have HB3 := Aside0.mk (below_fr HB2.out hf); have GS3 : Aside0 (Gs w3 g (S0 w) ([⟨127, 4, true⟩, ⟨124, -1, false⟩] : List Gl)) := ⟨hg.up HB2.out.size⟩; clear HB2 GS2 hg hf)
    | (go_at_call 26; (with_reducible refine (set_ok (k := 0) (x := 127) (y := 5) GS3.out (by decide) (by decide) (by decide) rfl rfl).mono ?_); rintro e w4 ⟨rfl, hg, hf⟩; have HB4 := Aside0.mk (below_fr HB3.out hf); have GS4 : Aside0 (Gs w4 g (S0 w) ([⟨127, 5, true⟩, ⟨124, -1, false⟩] : List Gl)) := ⟨hg⟩; clear HB3 GS3 hg hf)
    | (go_at_call 26; (with_reducible refine (set_const (k := 1) (x := 124) (y := 0) GS4.out (by decide) (by decide) (by decide) rfl rfl).mono ?_); rintro e w5 ⟨rfl, hb⟩; have HB5 := Aside0.mk (below_step HB4.out hb); have GS5 := Aside0.mk (GS4.out.below hb); clear hb GS4 HB4)
    | (go_at_call 26; (with_reducible refine (set_type (k := 0) (x := 126) (y := 0) GS5.out (by decide) (by decide) (by decide) (by decide)).mono ?_); rintro e w6 ⟨rfl, hb⟩; have HB6 := Aside0.mk (below_step HB5.out hb); have GS6 := Aside0.mk (GS5.out.below hb); clear hb GS5 HB5)
    | (go_at_call 27; (with_reducible refine (get_in (k := 0) GS6.out (by decide) (by decide)).mono ?_); rintro e w7 ⟨rfl, hb⟩; have HB7 := Aside0.mk (below_step HB6.out hb); have GS7 := Aside0.mk (GS6.out.below hb); clear hb GS6 HB6)
    | ((with_reducible refine gate_dst (N := 7) rfl ?_); refine box_event ?hg (N := 7) ?hd (cs := #[.int .i64 0, .int .i64 0]) (t := 29) ?hr ?_; (case hd => rfl); (case hg => rfl); (case hr => first | (go_simp; done) | (go_simp; rfl)); intro g7 hgg7 w8 hA hb; have GL7 := Aside0.mk (show w7.heap.size ≤ g7 by rw [hgg7]; exact Nat.le_refl _); have HB8 := Aside0.mk hb; have GS8 := Aside0.mk (GS7.out.below hb); have B7 := Aside0.mk hA; clear hA hb hgg7)
    | ((with_reducible refine gate_store (p := 7) rfl ?_); refine storeRow_event (g := g7) rfl rfl rfl (cs := #[.int .i64 127, .int .i64 5]) rfl rfl B7.out (by kernel_rfl) rfl (by simp [Value.oneCell']) ?_; intro w9 hA hb ho hs; have HB9 := Aside0.mk (below_step HB7.out (hb _ _ GL7.out HB8.out)); have GS9 : Aside0 (Gs w9 g (S0 w) ([⟨127, 5, true⟩, ⟨124, -1, false⟩] : List Gl)) := ⟨GS7.out.below (hb _ _ GL7.out HB8.out)⟩; have B8 := Aside0.mk hA; clear hA hb ho hs B7 HB7 HB8 GS7 GS8)
    | (go_at_call 27; (with_reducible refine (get_big (k := 2) GS9.out (by decide)).mono ?_); rintro e w10 ⟨rfl, hb⟩; have HB10 := Aside0.mk (below_step HB9.out hb); have B9 := Aside0.mk (blk_below B8.out hb); clear hb GS9 HB9)
    | ((with_reducible refine gate_dst (N := 9) rfl ?_); refine box_event ?hg (N := 9) ?hd (cs := #[.int .i64 0, .int .i64 0]) (t := 29) ?hr ?_; (case hd => rfl); (case hg => rfl); (case hr => first | (go_simp; done) | (go_simp; rfl)); intro g9 hgg9 w11 hA hb; have GL9 := Aside0.mk (show w10.heap.size ≤ g9 by rw [hgg9]; exact Nat.le_refl _); have HB11 := Aside0.mk hb; have B10 := Aside0.mk hA; clear hA hb hgg9)
    | ((with_reducible refine gate_store (p := 9) rfl ?_); refine storeRow_event (g := g9) rfl rfl rfl (cs := #[.int .i64 0, .int .i64 0]) rfl rfl B10.out (by kernel_rfl) rfl (by simp [Value.oneCell']) ?_; intro w12 hA hb ho hs; have HBl := Aside0.mk (hb _ _ GL9.out HB11.out); have HB12 := Aside0.mk (below_step HB10.out HBl.out); have q5 : w12.cell? ⟨g7, 1, none⟩ = some (.int .i64 5) := pw_cell_below HBl.out (blk_cell B9.out 1); clear hA hb ho hs B10)
    | (go_at_call 28; (with_reducible refine (num_calls _ _).mono ?_); rintro e w' ⟨rfl, rfl⟩))
  go_ret
  exact ⟨rfl, HB12.out⟩
end Go.Proofs.Ytddfoogbakiojaa.EGlob
