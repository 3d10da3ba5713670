/-
  peloruslaw10.GlobalActs answers true: both globals under any acts.
-/
import Derived.Test.YtddfoogbakiojaaEGlobThree
namespace Go.Proofs.Ytddfoogbakiojaa.EGlob
open Go Go.RowKit Go.Proofs.Ytddfoogbakiojaa.F Go.Proofs.Ytddfoogbakiojaa.PureVals Go.Proofs.YtddfoogbakiojaaW.Hand Go.Proofs.YtddfoogbakiojaaW.PrintWords Go.Proofs.YtddfoogbakiojaaW.PrintLast Go.Proofs.YtddfoogbakiojaaW.PrintMore
set_option linter.unusedVariables false
set_option linter.unusedSimpArgs false
def RelA (w : World) (g r : Nat) (len : Nat) (n : Nat) (v5 : Value) (wr : World) : Prop := ∃ (i : Nat) (xs : List Gl) (S T : Nat → Prop), i + n = len ∧ v5 = .int .i64 i ∧ Two w wr g r S T xs xs ∧ Below w.heap.size w wr ∧ xs.length ≤ 1024
set_option maxHeartbeats 16000000 in
set_option maxRecDepth 100000 in
theorem acts_calls {w : World} {A : Option Addr} {c : Nat} {acts : List Act} (h : kA.C w A acts.length acts) (hc : acts.length ≤ c) : Calls Try.prog 5 #[.slice A acts.length c] w fun e w' => e = .returned (.bool true) ∧ Below w.heap.size w w' := by
  have hu29 := Try.underlying29
  have hu35 := Try.underlying35
  have hu42 := Try.underlying42
  have hu37 := Try.underlying37
  have hm : acts.length ≤ 9223372036854775807 := Kd.C_max h
  have HA := Aside0.mk h
  clear h
  go_enter Try.func5, Try.ntmps5
  go_wp2_with (first
    | (go_at_call 24; (with_reducible refine (new_calls _).mono ?_); rintro e w1 ⟨g, rfl, hg, hb⟩; have HG1 := Aside0.mk hg; have HB1 := Aside0.mk hb; clear hg hb)
    | ((with_reducible refine gate_dst (N := 16) rfl ?_); refine box_event ?hg (N := 16) ?hd (cs := #[.slice none 0 0, .slice none 0 0]) (t := 40) ?hr ?_; (case hd => rfl); (case hg => rfl); (case hr => first | (go_simp; done) | (go_simp; rfl)); intro r hgr w2 hA hb; have TW : Aside0 (Two w w2 g r (fun k => w.heap.size ≤ k ∧ k < w1.heap.size) (fun k => w1.heap.size ≤ k ∧ k < w2.heap.size) [] []) := ⟨HG1.out.bound.below hb, ((rnew w1 hA (by rw [hgr]; exact Nat.le_refl _)).bound).mono (fun k hk => hk), fun k hk => ⟨hk.1, Nat.lt_of_lt_of_le hk.2 hb.size⟩, fun k hk => ⟨Nat.le_trans HB1.out.size hk.1, hk.2⟩, fun k hk ht => by omega, Nat.le_trans HB1.out.size hb.size⟩; have HB2 := Aside0.mk (below_step HB1.out hb); clear hA hb hgr))
  go_loopg [5] acts.length (fun n v5 wr => RelA w g r acts.length n v5 wr)
  case atStart => exact ⟨0, [], _, _, by omega, rfl, TW.out, HB2.out, by simp⟩
  case round =>
    obtain ⟨i, xs, S, T, hi, rfl, hT, hb, hl⟩ := hrel
    have I3 := Aside0.mk hi
    have TWr := Aside0.mk hT
    have HBr := Aside0.mk hb
    have XL := Aside0.mk hl
    clear hi hT hb hl TW HB2 HG1 HB1
    by_cases hlt : i < acts.length ∧ i < 200
    · obtain ⟨hlt, h200⟩ := hlt
      have hb2 : (i : Int) < 200 := by omega
      have d1 : decide (i < acts.length) = true := by simpa using hlt
      have d2 : decide ((i : Int) < 200) = true := decide_eq_true hb2
      obtain ⟨ad, rfl, e0, e1, e2, e3, e4⟩ := at_A (Kd.C_below HA.out HBr.out) (i : Int) (by omega) (by omega)
      simp only [Int.toNat_natCast] at e0 e1 e2 e3 e4
      have HLT := Aside0.mk hlt
      clear h200
      obtain ⟨a, ha⟩ : ∃ a, rdA acts i = a := ⟨_, rfl⟩
      rw [ha] at e0 e1 e2 e3 e4
      clear ha
      have hcase : (decide (a.kind < 3) = true) ∨ (decide (a.kind < 3) = false ∧ decide (a.kind < 7) = true) ∨ (decide (a.kind < 3) = false ∧ decide (a.kind < 7) = false) := by
        by_cases h3 : a.kind < 3 <;> by_cases h7 : a.kind < 7 <;> simp [h3, h7]
      rcases hcase with d3 | ⟨d3, d4⟩ | ⟨d3, d4⟩
      · have XL2 : Aside0 ((addL xs a.ty a.bits a.mt).length ≤ 1024) := ⟨addL_len XL.out⟩
        go_wp2_with (first
          | ((with_reducible refine gate_dst (N := 6) rfl ?_); refine box_event ?hg (N := 6) ?hd (cs := #[.int .i64 0, .int .i64 0, .int .i64 0, .int .i64 0, .bool false]) (t := 42) ?hr ?_; (case hd => rfl); (case hg => rfl); (case hr => first | (go_simp; done) | (go_simp; rfl)); intro g6 hgg6 w3 hA hb; have GL := Aside0.mk (show wr.heap.size ≤ g6 by rw [hgg6]; exact Nat.le_refl _); have HB3 := Aside0.mk hb; have B3 := Aside0.mk hA; clear hA hb hgg6)
          | ((with_reducible refine gate_store (p := 6) rfl ?_); refine storeRow_event (g := g6) rfl rfl rfl (cs := #[.int .i64 a.kind, .int .i64 a.k, .int .i64 a.ty, .int .i64 a.bits, .bool a.mt]) rfl rfl B3.out (by kernel_rfl) rfl (by simp [Value.oneCell']) ?_; intro w4 hA hb ho hs; have HBx := Aside0.mk (hb _ _ GL.out HB3.out); have HB4 := Aside0.mk (below_step HBr.out HBx.out); have TH : Aside0 (Three w w4 g r xs xs g6 a) := ⟨S, T, TWr.out.below HBx.out, fun hs => by have := (TWr.out.sn g6 hs).2; have := GL.out; omega, fun hs => by have := (TWr.out.tn g6 hs).2; have := GL.out; omega, hA⟩; have y0 : w4.cell? ⟨g6, 0, none⟩ = some (.int .i64 a.kind) := blk_cell TH.out.bx 0; have y1 : w4.cell? ⟨g6, 1, none⟩ = some (.int .i64 a.k) := blk_cell TH.out.bx 1; have y2 : w4.cell? ⟨g6, 2, none⟩ = some (.int .i64 a.ty) := blk_cell TH.out.bx 2; have y3 : w4.cell? ⟨g6, 3, none⟩ = some (.int .i64 a.bits) := blk_cell TH.out.bx 3; have y4 : w4.cell? ⟨g6, 4, none⟩ = some (.bool a.mt) := blk_cell TH.out.bx 4; clear hA hb ho hs B3 HB3 HBx e0 e1 e2 e3 e4)
          | (go_at_call 25; (with_reducible refine (t_add (x := a.ty) (y := a.bits) (m := a.mt) TH.out HB4.out).mono ?_); rintro e w5 ⟨rfl, hT, hb⟩; have TH2 := Aside0.mk hT; have HB5 := Aside0.mk hb; clear TH hT hb HB4 y0 y1 y2 y3 y4; have TH := TH2; clear TH2; have y0 : w5.cell? ⟨g6, 0, none⟩ = some (.int .i64 a.kind) := blk_cell TH.out.bx 0; have y1 : w5.cell? ⟨g6, 1, none⟩ = some (.int .i64 a.k) := blk_cell TH.out.bx 1; have y2 : w5.cell? ⟨g6, 2, none⟩ = some (.int .i64 a.ty) := blk_cell TH.out.bx 2; have y3 : w5.cell? ⟨g6, 3, none⟩ = some (.int .i64 a.bits) := blk_cell TH.out.bx 3; have y4 : w5.cell? ⟨g6, 4, none⟩ = some (.bool a.mt) := blk_cell TH.out.bx 4))
        have hy : Below w5.heap.size w5 w5 := Below.refl _ _
        clear y0 y1 y2 y3 y4
        have THx := Aside0.mk (fun W (hb : Below w5.heap.size w5 W) => TH.out.below hb)
        have HBx := Aside0.mk (fun W (hb : Below w5.heap.size w5 W) => below_step HB5.out hb)
        have yy0 : ∀ W, Bx W g6 a → W.cell? ⟨g6, 0, none⟩ = some (.int .i64 a.kind) := fun W hb => blk_cell hb 0
        have yy1 : ∀ W, Bx W g6 a → W.cell? ⟨g6, 1, none⟩ = some (.int .i64 a.k) := fun W hb => blk_cell hb 1
        have yy2 : ∀ W, Bx W g6 a → W.cell? ⟨g6, 2, none⟩ = some (.int .i64 a.ty) := fun W hb => blk_cell hb 2
        have yy3 : ∀ W, Bx W g6 a → W.cell? ⟨g6, 3, none⟩ = some (.int .i64 a.bits) := fun W hb => blk_cell hb 3
        have yy4 : ∀ W, Bx W g6 a → W.cell? ⟨g6, 4, none⟩ = some (.bool a.mt) := fun W hb => blk_cell hb 4
        have hx : Bx w5 g6 a := TH.out.bx
        go_region_held3 (fun W => Bx W g6 a)
          (first | (with_reducible exact hx) | (exact blk_drew hx) | (with_reducible assumption))
          (first
            | (go_at_call 28; (with_reducible refine (num_calls _ _).mono ?_); rintro e w' ⟨rfl, rfl⟩)
            | (go_at_call 29; (with_reducible refine (t_radd (x := a.ty) (y := a.bits) (m := a.mt) (THx.out _ (by first | exact hy | exact below_drew hy)) (HBx.out _ (by first | exact hy | exact below_drew hy))).mono ?_); rintro e w6 ⟨rfl, hT, hb⟩; have hx : Bx w6 g6 a := hT.bx; have THz := Aside0.mk hT; have HB6 := Aside0.mk hb; clear hT hb))
        all_goals
          have TH2 := THz
          clear TH
          have TH := TH2
          clear TH2 THz THx HBx hx hy HB5 yy0 yy1 yy2 yy3 yy4
          have y0 : w6.cell? ⟨g6, 0, none⟩ = some (.int .i64 a.kind) := blk_cell TH.out.bx 0
          have y1 : w6.cell? ⟨g6, 1, none⟩ = some (.int .i64 a.k) := blk_cell TH.out.bx 1
          have y2 : w6.cell? ⟨g6, 2, none⟩ = some (.int .i64 a.ty) := blk_cell TH.out.bx 2
          have y3 : w6.cell? ⟨g6, 3, none⟩ = some (.int .i64 a.bits) := blk_cell TH.out.bx 3
          have y4 : w6.cell? ⟨g6, 4, none⟩ = some (.bool a.mt) := blk_cell TH.out.bx 4
          go_wp2_with (first
            | (go_at_call 27; (with_reducible refine (t_get (k := a.k) TH.out).mono ?_); rintro e w10 ⟨rfl, hb⟩; have TH2 := Aside0.mk (TH.out.below hb); have HB10 := Aside0.mk (below_step HB6.out hb); clear TH; have TH := TH2; clear TH2 hb y0 y1 y2 y3 y4; have y0 : w10.cell? ⟨g6, 0, none⟩ = some (.int .i64 a.kind) := blk_cell TH.out.bx 0; have y1 : w10.cell? ⟨g6, 1, none⟩ = some (.int .i64 a.k) := blk_cell TH.out.bx 1; have y2 : w10.cell? ⟨g6, 2, none⟩ = some (.int .i64 a.ty) := blk_cell TH.out.bx 2; have y3 : w10.cell? ⟨g6, 3, none⟩ = some (.int .i64 a.bits) := blk_cell TH.out.bx 3; have y4 : w10.cell? ⟨g6, 4, none⟩ = some (.bool a.mt) := blk_cell TH.out.bx 4)
            | ((with_reducible refine gate_dst (N := 9) rfl ?_); refine box_event ?hg (N := 9) ?hd (cs := #[.int .i64 0, .int .i64 0]) (t := 29) ?hr ?_; (case hd => rfl); (case hg => rfl); (case hr => first | (go_simp; done) | (go_simp; rfl)); intro g9 hgg9 w11 hA hb; have GL9 := Aside0.mk (show w10.heap.size ≤ g9 by rw [hgg9]; exact Nat.le_refl _); have HB11 := Aside0.mk hb; have B9 := Aside0.mk hA; clear hA hb hgg9)
            | ((with_reducible refine gate_store (p := 9) rfl ?_); refine storeRow_event (g := g9) rfl rfl rfl (cs := #[.int .i64 (getT (addL xs a.ty a.bits a.mt) a.k), .int .i64 (getB (addL xs a.ty a.bits a.mt) a.k)]) rfl rfl B9.out (by kernel_rfl) rfl (by simp [Value.oneCell']) ?_; intro w12 hA hb ho hs; have HBl := Aside0.mk (hb _ _ GL9.out HB11.out); have HB12 := Aside0.mk (below_step HB10.out HBl.out); have TH2 := Aside0.mk (TH.out.below HBl.out); have B10 := Aside0.mk hA; clear TH; have TH := TH2; clear TH2 hA hb ho hs B9 y0 y1 y2 y3 y4 HBl HB11 HB10; have y0 : w12.cell? ⟨g6, 0, none⟩ = some (.int .i64 a.kind) := blk_cell TH.out.bx 0; have y1 : w12.cell? ⟨g6, 1, none⟩ = some (.int .i64 a.k) := blk_cell TH.out.bx 1; have y2 : w12.cell? ⟨g6, 2, none⟩ = some (.int .i64 a.ty) := blk_cell TH.out.bx 2; have y3 : w12.cell? ⟨g6, 3, none⟩ = some (.int .i64 a.bits) := blk_cell TH.out.bx 3; have y4 : w12.cell? ⟨g6, 4, none⟩ = some (.bool a.mt) := blk_cell TH.out.bx 4)
            | (go_at_call 31; (with_reducible refine (t_rget (k := a.k) TH.out).mono ?_); rintro e w13 ⟨rfl, hb⟩; have TH2 := Aside0.mk (TH.out.below hb); have HB13 := Aside0.mk (below_step HB12.out hb); have B11 := Aside0.mk (blk_below B10.out hb); clear TH; have TH := TH2; clear TH2 hb y0 y1 y2 y3 y4 HB12 B10)
            | ((with_reducible refine gate_dst (N := 11) rfl ?_); refine box_event ?hg (N := 11) ?hd (cs := #[.int .i64 0, .int .i64 0]) (t := 29) ?hr ?_; (case hd => rfl); (case hg => rfl); (case hr => first | (go_simp; done) | (go_simp; rfl)); intro g11 hgg11 w14 hA hb; have GL11 := Aside0.mk (show w13.heap.size ≤ g11 by rw [hgg11]; exact Nat.le_refl _); have HB14 := Aside0.mk hb; have B14 := Aside0.mk hA; clear hA hb hgg11)
            | ((with_reducible refine gate_store (p := 11) rfl ?_); refine storeRow_event (g := g11) rfl rfl rfl (cs := #[.int .i64 (getT (addL xs a.ty a.bits a.mt) a.k), .int .i64 (getB (addL xs a.ty a.bits a.mt) a.k)]) rfl rfl B14.out (by kernel_rfl) rfl (by simp [Value.oneCell']) ?_; intro w15 hA hb ho hs; have HBl := Aside0.mk (hb _ _ GL11.out HB14.out); have HB15 := Aside0.mk (below_step HB13.out HBl.out); have TW15 := Aside0.mk (TH.out.below HBl.out).two; have B15 := Aside0.mk hA; have B12 := Aside0.mk (blk_below B11.out HBl.out); obtain ⟨S5, T5, hTW⟩ := TW15.out; have TW := Aside0.mk hTW; clear hTW TW15 TH hA hb ho hs B14 B11 HBl HB14 HB13)
            | (go_at_call 32; (with_reducible refine (two_all TW.out XL2.out).mono ?_); rintro e w16 ⟨A6, c6, rfl, hR, hb⟩; have HB16 := Aside0.mk (below_step HB15.out hb); have RV := Aside0.mk hR; have TW2 := Aside0.mk (TW.out.below hb); have N5 := Aside0.mk (fun k (hk : S5 k) => (TW.out.sn k hk).2); have N6 := Aside0.mk (fun k (hk : T5 k) => (TW.out.tn k hk).2); have M5 := Aside0.mk TW.out.le; obtain ⟨B6, d6, hbc, hbd, hbC⟩ := two_v TW2.out; have z0 : w16.cell? ⟨r, 0, none⟩ = some (.slice B6 (addL xs a.ty a.bits a.mt).length d6) := hbc; have BD := Aside0.mk hbd; have BC := Aside0.mk hbC; have z1 : w16.cell? ⟨g9, 0, none⟩ = some (.int .i64 (getT (addL xs a.ty a.bits a.mt) a.k)) := pw_cell_below hb (blk_cell B12.out 0); have z2 : w16.cell? ⟨g9, 1, none⟩ = some (.int .i64 (getB (addL xs a.ty a.bits a.mt) a.k)) := pw_cell_below hb (blk_cell B12.out 1); have z3 : w16.cell? ⟨g11, 0, none⟩ = some (.int .i64 (getT (addL xs a.ty a.bits a.mt) a.k)) := pw_cell_below hb (blk_cell B15.out 0); have z4 : w16.cell? ⟨g11, 1, none⟩ = some (.int .i64 (getB (addL xs a.ty a.bits a.mt) a.k)) := pw_cell_below hb (blk_cell B15.out 1); have CS := Aside0.mk (same_calls (vs := (addL xs a.ty a.bits a.mt).map valOf) (by simp) (C_len (Kd.R_reads' hR).2.2) (Kd.R_reads' hR).2.1 hbC hbd); have TW := TW2; clear TW2 hR hb hbc hbd hbC)
            | (go_at_call 33; (with_reducible refine (CS.out).mono ?_); rintro e w17 ⟨rfl, hb⟩; have HB17 := Aside0.mk (below_step HB16.out hb); have RV7 := Aside0.mk (Kd.R_below RV.out hb); have TW7 := Aside0.mk (TW.out.below hb); clear hb TW RV CS z0 z1 z2 z3 z4)
            | (go_at_call 34; (with_reducible refine (spoil_R RV7.out).mono ?_); rintro e w18 ⟨rfl, hf⟩; have TWZ := Aside0.mk (TW7.out.frame hf (fun k hk hu => by have := N5.out k hk; omega) (fun k hk hu => by have := N6.out k hk; omega)); have HBZ := Aside0.mk (TW7.out.fr_below HB17.out (fun k hk => Nat.le_trans M5.out hk) hf); clear hf)
            | (go_at_call 28; (with_reducible refine (num_calls _ _).mono ?_); rintro e w' ⟨rfl, rfl⟩))
          go_roundg (acts.length - (i + 1))
          case measure => have := I3.out; have := HLT.out; omega
          case rel => exact ⟨i + 1, (addL xs a.ty a.bits a.mt), S5, T5, by have := HLT.out; omega, by go_num, TWZ.out, HBZ.out, XL2.out⟩
      · have XL2 : Aside0 ((setL xs a.k a.ty a.bits).length ≤ 1024) := ⟨by rw [setL_len]; exact XL.out⟩
        go_wp2_with (first
          | ((with_reducible refine gate_dst (N := 6) rfl ?_); refine box_event ?hg (N := 6) ?hd (cs := #[.int .i64 0, .int .i64 0, .int .i64 0, .int .i64 0, .bool false]) (t := 42) ?hr ?_; (case hd => rfl); (case hg => rfl); (case hr => first | (go_simp; done) | (go_simp; rfl)); intro g6 hgg6 w3 hA hb; have GL := Aside0.mk (show wr.heap.size ≤ g6 by rw [hgg6]; exact Nat.le_refl _); have HB3 := Aside0.mk hb; have B3 := Aside0.mk hA; clear hA hb hgg6)
          | ((with_reducible refine gate_store (p := 6) rfl ?_); refine storeRow_event (g := g6) rfl rfl rfl (cs := #[.int .i64 a.kind, .int .i64 a.k, .int .i64 a.ty, .int .i64 a.bits, .bool a.mt]) rfl rfl B3.out (by kernel_rfl) rfl (by simp [Value.oneCell']) ?_; intro w4 hA hb ho hs; have HBx := Aside0.mk (hb _ _ GL.out HB3.out); have HB4 := Aside0.mk (below_step HBr.out HBx.out); have TH : Aside0 (Three w w4 g r xs xs g6 a) := ⟨S, T, TWr.out.below HBx.out, fun hs => by have := (TWr.out.sn g6 hs).2; have := GL.out; omega, fun hs => by have := (TWr.out.tn g6 hs).2; have := GL.out; omega, hA⟩; have y0 : w4.cell? ⟨g6, 0, none⟩ = some (.int .i64 a.kind) := blk_cell TH.out.bx 0; have y1 : w4.cell? ⟨g6, 1, none⟩ = some (.int .i64 a.k) := blk_cell TH.out.bx 1; have y2 : w4.cell? ⟨g6, 2, none⟩ = some (.int .i64 a.ty) := blk_cell TH.out.bx 2; have y3 : w4.cell? ⟨g6, 3, none⟩ = some (.int .i64 a.bits) := blk_cell TH.out.bx 3; have y4 : w4.cell? ⟨g6, 4, none⟩ = some (.bool a.mt) := blk_cell TH.out.bx 4; clear hA hb ho hs B3 HB3 HBx e0 e1 e2 e3 e4)
          | (go_at_call 26; (with_reducible refine (t_set (k := a.k) (x := a.ty) (y := a.bits) TH.out HB4.out).mono ?_); rintro e w5 ⟨rfl, hT, hb⟩; have TH2 := Aside0.mk hT; have HB5 := Aside0.mk hb; clear TH hT hb HB4 y0 y1 y2 y3 y4; have TH := TH2; clear TH2; have y0 : w5.cell? ⟨g6, 0, none⟩ = some (.int .i64 a.kind) := blk_cell TH.out.bx 0; have y1 : w5.cell? ⟨g6, 1, none⟩ = some (.int .i64 a.k) := blk_cell TH.out.bx 1; have y2 : w5.cell? ⟨g6, 2, none⟩ = some (.int .i64 a.ty) := blk_cell TH.out.bx 2; have y3 : w5.cell? ⟨g6, 3, none⟩ = some (.int .i64 a.bits) := blk_cell TH.out.bx 3; have y4 : w5.cell? ⟨g6, 4, none⟩ = some (.bool a.mt) := blk_cell TH.out.bx 4))
        have hy : Below w5.heap.size w5 w5 := Below.refl _ _
        clear y0 y1 y2 y3 y4
        have THx := Aside0.mk (fun W (hb : Below w5.heap.size w5 W) => TH.out.below hb)
        have HBx := Aside0.mk (fun W (hb : Below w5.heap.size w5 W) => below_step HB5.out hb)
        have yy0 : ∀ W, Bx W g6 a → W.cell? ⟨g6, 0, none⟩ = some (.int .i64 a.kind) := fun W hb => blk_cell hb 0
        have yy1 : ∀ W, Bx W g6 a → W.cell? ⟨g6, 1, none⟩ = some (.int .i64 a.k) := fun W hb => blk_cell hb 1
        have yy2 : ∀ W, Bx W g6 a → W.cell? ⟨g6, 2, none⟩ = some (.int .i64 a.ty) := fun W hb => blk_cell hb 2
        have yy3 : ∀ W, Bx W g6 a → W.cell? ⟨g6, 3, none⟩ = some (.int .i64 a.bits) := fun W hb => blk_cell hb 3
        have yy4 : ∀ W, Bx W g6 a → W.cell? ⟨g6, 4, none⟩ = some (.bool a.mt) := fun W hb => blk_cell hb 4
        have hx : Bx w5 g6 a := TH.out.bx
        go_region_held3 (fun W => Bx W g6 a)
          (first | (with_reducible exact hx) | (exact blk_drew hx) | (with_reducible assumption))
          (first
            | (go_at_call 28; (with_reducible refine (num_calls _ _).mono ?_); rintro e w' ⟨rfl, rfl⟩)
            | (go_at_call 30; (with_reducible refine (t_rset (k := a.k) (x := a.ty) (y := a.bits) (THx.out _ (by first | exact hy | exact below_drew hy)) (HBx.out _ (by first | exact hy | exact below_drew hy))).mono ?_); rintro e w6 ⟨rfl, hT, hb⟩; have hx : Bx w6 g6 a := hT.bx; have THz := Aside0.mk hT; have HB6 := Aside0.mk hb; clear hT hb))
        all_goals
          have TH2 := THz
          clear TH
          have TH := TH2
          clear TH2 THz THx HBx hx hy HB5 yy0 yy1 yy2 yy3 yy4
          have y0 : w6.cell? ⟨g6, 0, none⟩ = some (.int .i64 a.kind) := blk_cell TH.out.bx 0
          have y1 : w6.cell? ⟨g6, 1, none⟩ = some (.int .i64 a.k) := blk_cell TH.out.bx 1
          have y2 : w6.cell? ⟨g6, 2, none⟩ = some (.int .i64 a.ty) := blk_cell TH.out.bx 2
          have y3 : w6.cell? ⟨g6, 3, none⟩ = some (.int .i64 a.bits) := blk_cell TH.out.bx 3
          have y4 : w6.cell? ⟨g6, 4, none⟩ = some (.bool a.mt) := blk_cell TH.out.bx 4
          go_wp2_with (first
            | (go_at_call 27; (with_reducible refine (t_get (k := a.k) TH.out).mono ?_); rintro e w10 ⟨rfl, hb⟩; have TH2 := Aside0.mk (TH.out.below hb); have HB10 := Aside0.mk (below_step HB6.out hb); clear TH; have TH := TH2; clear TH2 hb y0 y1 y2 y3 y4; have y0 : w10.cell? ⟨g6, 0, none⟩ = some (.int .i64 a.kind) := blk_cell TH.out.bx 0; have y1 : w10.cell? ⟨g6, 1, none⟩ = some (.int .i64 a.k) := blk_cell TH.out.bx 1; have y2 : w10.cell? ⟨g6, 2, none⟩ = some (.int .i64 a.ty) := blk_cell TH.out.bx 2; have y3 : w10.cell? ⟨g6, 3, none⟩ = some (.int .i64 a.bits) := blk_cell TH.out.bx 3; have y4 : w10.cell? ⟨g6, 4, none⟩ = some (.bool a.mt) := blk_cell TH.out.bx 4)
            | ((with_reducible refine gate_dst (N := 9) rfl ?_); refine box_event ?hg (N := 9) ?hd (cs := #[.int .i64 0, .int .i64 0]) (t := 29) ?hr ?_; (case hd => rfl); (case hg => rfl); (case hr => first | (go_simp; done) | (go_simp; rfl)); intro g9 hgg9 w11 hA hb; have GL9 := Aside0.mk (show w10.heap.size ≤ g9 by rw [hgg9]; exact Nat.le_refl _); have HB11 := Aside0.mk hb; have B9 := Aside0.mk hA; clear hA hb hgg9)
            | ((with_reducible refine gate_store (p := 9) rfl ?_); refine storeRow_event (g := g9) rfl rfl rfl (cs := #[.int .i64 (getT (setL xs a.k a.ty a.bits) a.k), .int .i64 (getB (setL xs a.k a.ty a.bits) a.k)]) rfl rfl B9.out (by kernel_rfl) rfl (by simp [Value.oneCell']) ?_; intro w12 hA hb ho hs; have HBl := Aside0.mk (hb _ _ GL9.out HB11.out); have HB12 := Aside0.mk (below_step HB10.out HBl.out); have TH2 := Aside0.mk (TH.out.below HBl.out); have B10 := Aside0.mk hA; clear TH; have TH := TH2; clear TH2 hA hb ho hs B9 y0 y1 y2 y3 y4 HBl HB11 HB10; have y0 : w12.cell? ⟨g6, 0, none⟩ = some (.int .i64 a.kind) := blk_cell TH.out.bx 0; have y1 : w12.cell? ⟨g6, 1, none⟩ = some (.int .i64 a.k) := blk_cell TH.out.bx 1; have y2 : w12.cell? ⟨g6, 2, none⟩ = some (.int .i64 a.ty) := blk_cell TH.out.bx 2; have y3 : w12.cell? ⟨g6, 3, none⟩ = some (.int .i64 a.bits) := blk_cell TH.out.bx 3; have y4 : w12.cell? ⟨g6, 4, none⟩ = some (.bool a.mt) := blk_cell TH.out.bx 4)
            | (go_at_call 31; (with_reducible refine (t_rget (k := a.k) TH.out).mono ?_); rintro e w13 ⟨rfl, hb⟩; have TH2 := Aside0.mk (TH.out.below hb); have HB13 := Aside0.mk (below_step HB12.out hb); have B11 := Aside0.mk (blk_below B10.out hb); clear TH; have TH := TH2; clear TH2 hb y0 y1 y2 y3 y4 HB12 B10)
            | ((with_reducible refine gate_dst (N := 11) rfl ?_); refine box_event ?hg (N := 11) ?hd (cs := #[.int .i64 0, .int .i64 0]) (t := 29) ?hr ?_; (case hd => rfl); (case hg => rfl); (case hr => first | (go_simp; done) | (go_simp; rfl)); intro g11 hgg11 w14 hA hb; have GL11 := Aside0.mk (show w13.heap.size ≤ g11 by rw [hgg11]; exact Nat.le_refl _); have HB14 := Aside0.mk hb; have B14 := Aside0.mk hA; clear hA hb hgg11)
            | ((with_reducible refine gate_store (p := 11) rfl ?_); refine storeRow_event (g := g11) rfl rfl rfl (cs := #[.int .i64 (getT (setL xs a.k a.ty a.bits) a.k), .int .i64 (getB (setL xs a.k a.ty a.bits) a.k)]) rfl rfl B14.out (by kernel_rfl) rfl (by simp [Value.oneCell']) ?_; intro w15 hA hb ho hs; have HBl := Aside0.mk (hb _ _ GL11.out HB14.out); have HB15 := Aside0.mk (below_step HB13.out HBl.out); have TW15 := Aside0.mk (TH.out.below HBl.out).two; have B15 := Aside0.mk hA; have B12 := Aside0.mk (blk_below B11.out HBl.out); obtain ⟨S5, T5, hTW⟩ := TW15.out; have TW := Aside0.mk hTW; clear hTW TW15 TH hA hb ho hs B14 B11 HBl HB14 HB13)
            | (go_at_call 32; (with_reducible refine (two_all TW.out XL2.out).mono ?_); rintro e w16 ⟨A6, c6, rfl, hR, hb⟩; have HB16 := Aside0.mk (below_step HB15.out hb); have RV := Aside0.mk hR; have TW2 := Aside0.mk (TW.out.below hb); have N5 := Aside0.mk (fun k (hk : S5 k) => (TW.out.sn k hk).2); have N6 := Aside0.mk (fun k (hk : T5 k) => (TW.out.tn k hk).2); have M5 := Aside0.mk TW.out.le; obtain ⟨B6, d6, hbc, hbd, hbC⟩ := two_v TW2.out; have z0 : w16.cell? ⟨r, 0, none⟩ = some (.slice B6 (setL xs a.k a.ty a.bits).length d6) := hbc; have BD := Aside0.mk hbd; have BC := Aside0.mk hbC; have z1 : w16.cell? ⟨g9, 0, none⟩ = some (.int .i64 (getT (setL xs a.k a.ty a.bits) a.k)) := pw_cell_below hb (blk_cell B12.out 0); have z2 : w16.cell? ⟨g9, 1, none⟩ = some (.int .i64 (getB (setL xs a.k a.ty a.bits) a.k)) := pw_cell_below hb (blk_cell B12.out 1); have z3 : w16.cell? ⟨g11, 0, none⟩ = some (.int .i64 (getT (setL xs a.k a.ty a.bits) a.k)) := pw_cell_below hb (blk_cell B15.out 0); have z4 : w16.cell? ⟨g11, 1, none⟩ = some (.int .i64 (getB (setL xs a.k a.ty a.bits) a.k)) := pw_cell_below hb (blk_cell B15.out 1); have CS := Aside0.mk (same_calls (vs := (setL xs a.k a.ty a.bits).map valOf) (by simp) (C_len (Kd.R_reads' hR).2.2) (Kd.R_reads' hR).2.1 hbC hbd); have TW := TW2; clear TW2 hR hb hbc hbd hbC)
            | (go_at_call 33; (with_reducible refine (CS.out).mono ?_); rintro e w17 ⟨rfl, hb⟩; have HB17 := Aside0.mk (below_step HB16.out hb); have RV7 := Aside0.mk (Kd.R_below RV.out hb); have TW7 := Aside0.mk (TW.out.below hb); clear hb TW RV CS z0 z1 z2 z3 z4)
            | (go_at_call 34; (with_reducible refine (spoil_R RV7.out).mono ?_); rintro e w18 ⟨rfl, hf⟩; have TWZ := Aside0.mk (TW7.out.frame hf (fun k hk hu => by have := N5.out k hk; omega) (fun k hk hu => by have := N6.out k hk; omega)); have HBZ := Aside0.mk (TW7.out.fr_below HB17.out (fun k hk => Nat.le_trans M5.out hk) hf); clear hf)
            | (go_at_call 28; (with_reducible refine (num_calls _ _).mono ?_); rintro e w' ⟨rfl, rfl⟩))
          go_roundg (acts.length - (i + 1))
          case measure => have := I3.out; have := HLT.out; omega
          case rel => exact ⟨i + 1, (setL xs a.k a.ty a.bits), S5, T5, by have := HLT.out; omega, by go_num, TWZ.out, HBZ.out, XL2.out⟩
      · have XL2 : Aside0 (xs.length ≤ 1024) := ⟨XL.out⟩
        go_wp2_with (first
          | ((with_reducible refine gate_dst (N := 6) rfl ?_); refine box_event ?hg (N := 6) ?hd (cs := #[.int .i64 0, .int .i64 0, .int .i64 0, .int .i64 0, .bool false]) (t := 42) ?hr ?_; (case hd => rfl); (case hg => rfl); (case hr => first | (go_simp; done) | (go_simp; rfl)); intro g6 hgg6 w3 hA hb; have GL := Aside0.mk (show wr.heap.size ≤ g6 by rw [hgg6]; exact Nat.le_refl _); have HB3 := Aside0.mk hb; have B3 := Aside0.mk hA; clear hA hb hgg6)
          | ((with_reducible refine gate_store (p := 6) rfl ?_); refine storeRow_event (g := g6) rfl rfl rfl (cs := #[.int .i64 a.kind, .int .i64 a.k, .int .i64 a.ty, .int .i64 a.bits, .bool a.mt]) rfl rfl B3.out (by kernel_rfl) rfl (by simp [Value.oneCell']) ?_; intro w4 hA hb ho hs; have HBx := Aside0.mk (hb _ _ GL.out HB3.out); have HB4 := Aside0.mk (below_step HBr.out HBx.out); have TH : Aside0 (Three w w4 g r xs xs g6 a) := ⟨S, T, TWr.out.below HBx.out, fun hs => by have := (TWr.out.sn g6 hs).2; have := GL.out; omega, fun hs => by have := (TWr.out.tn g6 hs).2; have := GL.out; omega, hA⟩; have y0 : w4.cell? ⟨g6, 0, none⟩ = some (.int .i64 a.kind) := blk_cell TH.out.bx 0; have y1 : w4.cell? ⟨g6, 1, none⟩ = some (.int .i64 a.k) := blk_cell TH.out.bx 1; have y2 : w4.cell? ⟨g6, 2, none⟩ = some (.int .i64 a.ty) := blk_cell TH.out.bx 2; have y3 : w4.cell? ⟨g6, 3, none⟩ = some (.int .i64 a.bits) := blk_cell TH.out.bx 3; have y4 : w4.cell? ⟨g6, 4, none⟩ = some (.bool a.mt) := blk_cell TH.out.bx 4; clear hA hb ho hs B3 HB3 HBx e0 e1 e2 e3 e4)
          | (go_at_call 27; (with_reducible refine (t_get (k := a.k) TH.out).mono ?_); rintro e w10 ⟨rfl, hb⟩; have TH2 := Aside0.mk (TH.out.below hb); have HB10 := Aside0.mk (below_step HB4.out hb); clear TH; have TH := TH2; clear TH2 hb y0 y1 y2 y3 y4; have y0 : w10.cell? ⟨g6, 0, none⟩ = some (.int .i64 a.kind) := blk_cell TH.out.bx 0; have y1 : w10.cell? ⟨g6, 1, none⟩ = some (.int .i64 a.k) := blk_cell TH.out.bx 1; have y2 : w10.cell? ⟨g6, 2, none⟩ = some (.int .i64 a.ty) := blk_cell TH.out.bx 2; have y3 : w10.cell? ⟨g6, 3, none⟩ = some (.int .i64 a.bits) := blk_cell TH.out.bx 3; have y4 : w10.cell? ⟨g6, 4, none⟩ = some (.bool a.mt) := blk_cell TH.out.bx 4)
          | ((with_reducible refine gate_dst (N := 9) rfl ?_); refine box_event ?hg (N := 9) ?hd (cs := #[.int .i64 0, .int .i64 0]) (t := 29) ?hr ?_; (case hd => rfl); (case hg => rfl); (case hr => first | (go_simp; done) | (go_simp; rfl)); intro g9 hgg9 w11 hA hb; have GL9 := Aside0.mk (show w10.heap.size ≤ g9 by rw [hgg9]; exact Nat.le_refl _); have HB11 := Aside0.mk hb; have B9 := Aside0.mk hA; clear hA hb hgg9)
          | ((with_reducible refine gate_store (p := 9) rfl ?_); refine storeRow_event (g := g9) rfl rfl rfl (cs := #[.int .i64 (getT xs a.k), .int .i64 (getB xs a.k)]) rfl rfl B9.out (by kernel_rfl) rfl (by simp [Value.oneCell']) ?_; intro w12 hA hb ho hs; have HBl := Aside0.mk (hb _ _ GL9.out HB11.out); have HB12 := Aside0.mk (below_step HB10.out HBl.out); have TH2 := Aside0.mk (TH.out.below HBl.out); have B10 := Aside0.mk hA; clear TH; have TH := TH2; clear TH2 hA hb ho hs B9 y0 y1 y2 y3 y4 HBl HB11 HB10; have y0 : w12.cell? ⟨g6, 0, none⟩ = some (.int .i64 a.kind) := blk_cell TH.out.bx 0; have y1 : w12.cell? ⟨g6, 1, none⟩ = some (.int .i64 a.k) := blk_cell TH.out.bx 1; have y2 : w12.cell? ⟨g6, 2, none⟩ = some (.int .i64 a.ty) := blk_cell TH.out.bx 2; have y3 : w12.cell? ⟨g6, 3, none⟩ = some (.int .i64 a.bits) := blk_cell TH.out.bx 3; have y4 : w12.cell? ⟨g6, 4, none⟩ = some (.bool a.mt) := blk_cell TH.out.bx 4)
          | (go_at_call 31; (with_reducible refine (t_rget (k := a.k) TH.out).mono ?_); rintro e w13 ⟨rfl, hb⟩; have TH2 := Aside0.mk (TH.out.below hb); have HB13 := Aside0.mk (below_step HB12.out hb); have B11 := Aside0.mk (blk_below B10.out hb); clear TH; have TH := TH2; clear TH2 hb y0 y1 y2 y3 y4 HB12 B10)
          | ((with_reducible refine gate_dst (N := 11) rfl ?_); refine box_event ?hg (N := 11) ?hd (cs := #[.int .i64 0, .int .i64 0]) (t := 29) ?hr ?_; (case hd => rfl); (case hg => rfl); (case hr => first | (go_simp; done) | (go_simp; rfl)); intro g11 hgg11 w14 hA hb; have GL11 := Aside0.mk (show w13.heap.size ≤ g11 by rw [hgg11]; exact Nat.le_refl _); have HB14 := Aside0.mk hb; have B14 := Aside0.mk hA; clear hA hb hgg11)
          | ((with_reducible refine gate_store (p := 11) rfl ?_); refine storeRow_event (g := g11) rfl rfl rfl (cs := #[.int .i64 (getT xs a.k), .int .i64 (getB xs a.k)]) rfl rfl B14.out (by kernel_rfl) rfl (by simp [Value.oneCell']) ?_; intro w15 hA hb ho hs; have HBl := Aside0.mk (hb _ _ GL11.out HB14.out); have HB15 := Aside0.mk (below_step HB13.out HBl.out); have TW15 := Aside0.mk (TH.out.below HBl.out).two; have B15 := Aside0.mk hA; have B12 := Aside0.mk (blk_below B11.out HBl.out); obtain ⟨S5, T5, hTW⟩ := TW15.out; have TW := Aside0.mk hTW; clear hTW TW15 TH hA hb ho hs B14 B11 HBl HB14 HB13)
          | (go_at_call 32; (with_reducible refine (two_all TW.out XL2.out).mono ?_); rintro e w16 ⟨A6, c6, rfl, hR, hb⟩; have HB16 := Aside0.mk (below_step HB15.out hb); have RV := Aside0.mk hR; have TW2 := Aside0.mk (TW.out.below hb); have N5 := Aside0.mk (fun k (hk : S5 k) => (TW.out.sn k hk).2); have N6 := Aside0.mk (fun k (hk : T5 k) => (TW.out.tn k hk).2); have M5 := Aside0.mk TW.out.le; obtain ⟨B6, d6, hbc, hbd, hbC⟩ := two_v TW2.out; have z0 : w16.cell? ⟨r, 0, none⟩ = some (.slice B6 xs.length d6) := hbc; have BD := Aside0.mk hbd; have BC := Aside0.mk hbC; have z1 : w16.cell? ⟨g9, 0, none⟩ = some (.int .i64 (getT xs a.k)) := pw_cell_below hb (blk_cell B12.out 0); have z2 : w16.cell? ⟨g9, 1, none⟩ = some (.int .i64 (getB xs a.k)) := pw_cell_below hb (blk_cell B12.out 1); have z3 : w16.cell? ⟨g11, 0, none⟩ = some (.int .i64 (getT xs a.k)) := pw_cell_below hb (blk_cell B15.out 0); have z4 : w16.cell? ⟨g11, 1, none⟩ = some (.int .i64 (getB xs a.k)) := pw_cell_below hb (blk_cell B15.out 1); have CS := Aside0.mk (same_calls (vs := xs.map valOf) (by simp) (C_len (Kd.R_reads' hR).2.2) (Kd.R_reads' hR).2.1 hbC hbd); have TW := TW2; clear TW2 hR hb hbc hbd hbC)
          | (go_at_call 33; (with_reducible refine (CS.out).mono ?_); rintro e w17 ⟨rfl, hb⟩; have HB17 := Aside0.mk (below_step HB16.out hb); have RV7 := Aside0.mk (Kd.R_below RV.out hb); have TW7 := Aside0.mk (TW.out.below hb); clear hb TW RV CS z0 z1 z2 z3 z4)
          | (go_at_call 34; (with_reducible refine (spoil_R RV7.out).mono ?_); rintro e w18 ⟨rfl, hf⟩; have TWZ := Aside0.mk (TW7.out.frame hf (fun k hk hu => by have := N5.out k hk; omega) (fun k hk hu => by have := N6.out k hk; omega)); have HBZ := Aside0.mk (TW7.out.fr_below HB17.out (fun k hk => Nat.le_trans M5.out hk) hf); clear hf)
          | (go_at_call 28; (with_reducible refine (num_calls _ _).mono ?_); rintro e w' ⟨rfl, rfl⟩))
        go_roundg (acts.length - (i + 1))
        case measure => have := I3.out; have := HLT.out; omega
        case rel => exact ⟨i + 1, xs, S5, T5, by have := HLT.out; omega, by go_num, TWZ.out, HBZ.out, XL2.out⟩
    · have dd : (decide (i < acts.length) = false) ∨ (decide (i < acts.length) = true ∧ decide ((i : Int) < 200) = false) := by
        by_cases h1 : i < acts.length
        · have h2 : ¬ i < 200 := fun h2 => hlt ⟨h1, h2⟩
          exact .inr ⟨by simpa using h1, decide_eq_false (by omega)⟩
        · exact .inl (by simpa using h1)
      clear hlt
      have C1 := Aside0.mk (fun W (hb : Below wr.heap.size wr W) => two_all (TWr.out.below hb) XL.out)
      obtain ⟨B6, d6, hbc, hbd, hbC⟩ := two_v TWr.out
      have zz : ∀ W, Below wr.heap.size wr W → W.cell? ⟨r, 0, none⟩ = some (.slice B6 xs.length d6) := fun W hb => pw_cell_below hb hbc
      have BD := Aside0.mk hbd
      have BC := Aside0.mk (fun W (hb : Below wr.heap.size wr W) => Kd.C_below hbC hb)
      clear hbc hbd hbC
      rcases dd with d1 | ⟨d1, d2⟩
      all_goals
        go_wp2
        have hy : Below wr.heap.size wr wr := Below.refl _ _
        go_region_held3 (fun W => Below wr.heap.size wr W)
          (first | (with_reducible exact below_drew1 (Below.refl _ _)) | (with_reducible exact below_drew1 (by assumption)) | (with_reducible exact below_step (by assumption) hb) | (with_reducible exact hy))
          (first
            | (go_at_call 32; (with_reducible refine (C1.out _ (by assumption)).mono ?_); rintro e w6 ⟨A6, c6, rfl, hR, hb⟩; have RV := Aside0.mk (fun W (hb : Below w6.heap.size w6 W) => Kd.R_below hR hb); have hy0 := hy; have hy : Below wr.heap.size wr w6 := below_step (by assumption) hb; have hz : Below w6.heap.size w6 w6 := Below.refl _ _)
            | (go_at_call 33; (with_reducible refine (same_calls (vs := xs.map valOf) (by simp) (C_len (Kd.R_reads' (RV.out _ (by assumption))).2.2) (Kd.R_reads' (RV.out _ (by assumption))).2.1 (BC.out _ (by assumption)) BD.out).mono ?_); rintro e w7 ⟨rfl, hb⟩; have hy0 := hy; have hy : Below wr.heap.size wr w7 := below_step (by assumption) hb)
            | (go_at_call 23; refine (awake_calls _).mono ?_; rintro e w8 ⟨rfl, hb⟩; have hy0 := hy; have hy : Below wr.heap.size wr w8 := below_step (by assumption) hb))
      all_goals
        have HS : Below w.heap.size w _ := below_step HBr.out hy
        go_wp2_with fail
        go_ret
        exact ⟨rfl, HS⟩
end Go.Proofs.Ytddfoogbakiojaa.EGlob
