/-
  peloruslaw10.GlobalTypes answers true.
-/
import Derived.Test.YtddfoogbakiojaaEGlobAwake
namespace Go.Proofs.Ytddfoogbakiojaa.EGlob
open Go Go.RowKit Go.Proofs.Ytddfoogbakiojaa.F Go.Proofs.Ytddfoogbakiojaa.PureObs Go.Proofs.YtddfoogbakiojaaW.Hand Go.Proofs.YtddfoogbakiojaaW.PrintWords Go.Proofs.YtddfoogbakiojaaW.PrintLast Go.Proofs.YtddfoogbakiojaaW.PrintMore
set_option linter.unusedVariables false
set_option linter.unusedSimpArgs false
theorem and_low (n : Int) : ∃ x, Go.bits .and .i64 n 4294967295 = x ∧ 0 ≤ x ∧ x < 4294967296 := by
  refine ⟨_, rfl, ?_⟩
  have e : Go.bits .and .i64 n 4294967295 = IntKind.i64.wrap ((BitVec.ofInt 64 n &&& BitVec.ofInt 64 4294967295).toNat : Int) := rfl
  rw [e, IntKind.wrap_i64]
  have h1 : (BitVec.ofInt 64 n &&& BitVec.ofInt 64 4294967295).toNat ≤ 4294967295 := by
    rw [BitVec.toNat_and]
    exact Nat.le_trans Nat.and_le_right (by decide)
  omega
theorem kind_of (n : Int) : ∃ a, wrap64 (127 - wrap64 ((IntKind.u64.wrap n).tmod 4)) = a ∧ (a = 127 ∨ a = 126 ∨ a = 125 ∨ a = 124) := by
  refine ⟨_, rfl, ?_⟩
  rw [IntKind.wrap_u64, Int.tmod_eq_emod_of_nonneg (Int.emod_nonneg _ (by decide))]
  unfold wrap64
  omega
theorem may_low {a x : Int} (ha : a = 127 ∨ a = 126 ∨ a = 125 ∨ a = 124) (h0 : 0 ≤ x) (h1 : x < 4294967296) : mayV a x = true := by
  unfold mayV
  rcases ha with rfl | rfl | rfl | rfl <;> simp [h0, h1]
theorem may_high {x : Int} (h0 : 0 ≤ x) : mayV 127 (4294967296 + x) = false := by
  unfold mayV
  simp
  omega
set_option maxHeartbeats 4000000 in
theorem types_ok {w : World} {nb kind other a b x : Int} {m : Bool} (ha : wrap64 (127 - wrap64 ((IntKind.u64.wrap kind).tmod 4)) = a) (hb : wrap64 (127 - wrap64 ((IntKind.u64.wrap other).tmod 4)) = a) (hx : Go.bits .and .i64 nb 4294967295 = x) (ka : a = 127 ∨ a = 126 ∨ a = 125 ∨ a = 124) (hx0 : 0 ≤ x) (hx1 : x < 4294967296) : Calls Try.prog 4 #[.int .i64 nb, .int .i64 kind, .int .i64 other, .bool true] w fun e w' => e = .returned (.bool true) ∧ Below w.heap.size w w' := by
  have hu29 := Try.underlying29
  have M1 := Aside0.mk (may_low ka (by decide : (0 : Int) ≤ 1) (by decide))
  have M2 := Aside0.mk (may_low ka hx0 hx1)
  have M3 : Aside0 (mayV 127 (4294967296 + x) = false) := ⟨may_high hx0⟩
  have w1 : wrap64 (4294967296 + x) = 4294967296 + x := by unfold wrap64; omega
  clear ka
  go_enter Try.func4, Try.ntmps4
  go_wp2_with (first
    | (go_at_call 23; refine (awake_calls _).mono ?_; rintro e w1 ⟨rfl, hb⟩; have HB1 := Aside0.mk hb; clear hb)
    | (go_at_call 24; (with_reducible refine (new_calls w1).mono ?_); rintro e w2 ⟨g, rfl, hg, hb⟩; have GS2 : Aside0 (Gs w2 g (S0 w) []) := ⟨hg.mono (fun k hk => Nat.le_trans HB1.out.size hk)⟩; have HB2 := Aside0.mk (below_step HB1.out hb); clear hg hb HB1)
    | (go_at_call 25; (with_reducible refine (add_fits (x := a) (y := 1) (m := true) GS2.out M1.out (by decide)).mono ?_); rintro e w3 ⟨rfl, hg, hf⟩; have HB3 := Aside0.mk (below_fr HB2.out hf); have GS3 : Aside0 (Gs w3 g (S0 w) ([⟨a, 1, true⟩] : List Gl)) := ⟨hg.up HB2.out.size⟩; clear HB2 GS2 hg hf)
    | (go_at_call 26; (with_reducible refine (set_ok (k := 0) (x := a) (y := x) GS3.out (by decide) (by simp) M2.out rfl rfl).mono ?_); rintro e w4 ⟨rfl, hg, hf⟩; have HB4 := Aside0.mk (below_fr HB3.out hf); have GS4 : Aside0 (Gs w4 g (S0 w) ([⟨a, x, true⟩] : List Gl)) := ⟨hg⟩; clear HB3 GS3 hg hf)
    | (go_at_call 27; (with_reducible refine (get_in (k := 0) GS4.out (by decide) (by simp)).mono ?_); rintro e w5 ⟨rfl, hb⟩; have HB5 := Aside0.mk (below_step HB4.out hb); have GS5 := Aside0.mk (GS4.out.below hb); clear hb GS4 HB4)
    | ((with_reducible refine gate_dst (N := 15) rfl ?_); refine box_event ?hg (N := 15) ?hd (cs := #[.int .i64 0, .int .i64 0]) (t := 29) ?hr ?_; (case hd => rfl); (case hg => rfl); (case hr => first | (go_simp; done) | (go_simp; rfl)); intro g15 hgg15 w6 hA hb; have GL := Aside0.mk (show w5.heap.size ≤ g15 by rw [hgg15]; exact Nat.le_refl _); have HB6 := Aside0.mk hb; have B6 := Aside0.mk hA; clear hA hb hgg15)
    | ((with_reducible refine gate_store (p := 15) rfl ?_); refine storeRow_event (g := g15) rfl rfl rfl (cs := #[.int .i64 a, .int .i64 x]) rfl rfl B6.out (by kernel_rfl) rfl (by simp [Value.oneCell']) ?_; intro w7 hA hb ho hs; have HB7 := Aside0.mk (below_step HB5.out (hb _ _ GL.out HB6.out)); have GS7 : Aside0 (Gs w7 g (S0 w) ([⟨a, x, true⟩] : List Gl)) := ⟨GS5.out.below (hb _ _ GL.out HB6.out)⟩; have B7 := Aside0.mk hA; clear hA hb ho hs B6 HB5 HB6 GS5)
    | (go_at_call 25; (with_reducible refine (add_may (x := 127) (y := 4294967296 + x) (m := true) GS7.out M3.out).mono ?_); rintro e w8 ⟨rfl, hb⟩; have HB8 := Aside0.mk (below_step HB7.out hb); have q0 : w8.cell? ⟨g15, 0, none⟩ = some (.int .i64 a) := pw_cell_below hb (blk_cell B7.out 0); have q1 : w8.cell? ⟨g15, 1, none⟩ = some (.int .i64 x) := pw_cell_below hb (blk_cell B7.out 1); clear hb GS7 HB7)
    | (go_at_call 28; (with_reducible refine (num_calls _ _).mono ?_); rintro e w' ⟨rfl, rfl⟩))
  go_ret
  exact ⟨rfl, HB8.out⟩
set_option maxHeartbeats 4000000 in
theorem types_c1 {w : World} {nb kind other a b x : Int} {m : Bool} (ha : wrap64 (127 - wrap64 ((IntKind.u64.wrap kind).tmod 4)) = a) (hb : wrap64 (127 - wrap64 ((IntKind.u64.wrap other).tmod 4)) = a) (hx : Go.bits .and .i64 nb 4294967295 = 1) (ka : a = 127 ∨ a = 126 ∨ a = 125 ∨ a = 124) : Calls Try.prog 4 #[.int .i64 nb, .int .i64 kind, .int .i64 other, .bool false] w fun e w' => e = .returned (.bool true) ∧ Below w.heap.size w w' := by
  have hu29 := Try.underlying29
  have M1 := Aside0.mk (may_low ka (by decide : (0 : Int) ≤ 1) (by decide))
  have M2 := Aside0.mk (may_low ka (by decide : (0 : Int) ≤ 1) (by decide : (1 : Int) < 4294967296))
  have M3 : Aside0 (mayV 127 (4294967297) = false) := ⟨by decide⟩
  clear ka
  go_enter Try.func4, Try.ntmps4
  go_wp2_with (first
    | (go_at_call 23; refine (awake_calls _).mono ?_; rintro e w1 ⟨rfl, hb⟩; have HB1 := Aside0.mk hb; clear hb)
    | (go_at_call 24; (with_reducible refine (new_calls w1).mono ?_); rintro e w2 ⟨g, rfl, hg, hb⟩; have GS2 : Aside0 (Gs w2 g (S0 w) []) := ⟨hg.mono (fun k hk => Nat.le_trans HB1.out.size hk)⟩; have HB2 := Aside0.mk (below_step HB1.out hb); clear hg hb HB1)
    | (go_at_call 25; (with_reducible refine (add_fits (x := a) (y := 1) (m := false) GS2.out M1.out (by decide)).mono ?_); rintro e w3 ⟨rfl, hg, hf⟩; have HB3 := Aside0.mk (below_fr HB2.out hf); have GS3 : Aside0 (Gs w3 g (S0 w) ([⟨a, 1, false⟩] : List Gl)) := ⟨hg.up HB2.out.size⟩; clear HB2 GS2 hg hf)
    | (go_at_call 26; (with_reducible refine (set_const (k := 0) (x := a) (y := 1) GS3.out (by decide) (by simp) M2.out rfl rfl).mono ?_); rintro e w4 ⟨rfl, hb⟩; have HB4 := Aside0.mk (below_step HB3.out hb); have GS4 := Aside0.mk (GS3.out.below hb); clear hb GS3 HB3)
    | (go_at_call 27; (with_reducible refine (get_in (k := 0) GS4.out (by decide) (by simp)).mono ?_); rintro e w5 ⟨rfl, hb⟩; have HB5 := Aside0.mk (below_step HB4.out hb); have GS5 := Aside0.mk (GS4.out.below hb); clear hb GS4 HB4)
    | ((with_reducible refine gate_dst (N := 15) rfl ?_); refine box_event ?hg (N := 15) ?hd (cs := #[.int .i64 0, .int .i64 0]) (t := 29) ?hr ?_; (case hd => rfl); (case hg => rfl); (case hr => first | (go_simp; done) | (go_simp; rfl)); intro g15 hgg15 w6 hA hb; have GL := Aside0.mk (show w5.heap.size ≤ g15 by rw [hgg15]; exact Nat.le_refl _); have HB6 := Aside0.mk hb; have B6 := Aside0.mk hA; clear hA hb hgg15)
    | ((with_reducible refine gate_store (p := 15) rfl ?_); refine storeRow_event (g := g15) rfl rfl rfl (cs := #[.int .i64 a, .int .i64 1]) rfl rfl B6.out (by kernel_rfl) rfl (by simp [Value.oneCell']) ?_; intro w7 hA hb ho hs; have HB7 := Aside0.mk (below_step HB5.out (hb _ _ GL.out HB6.out)); have GS7 : Aside0 (Gs w7 g (S0 w) ([⟨a, 1, false⟩] : List Gl)) := ⟨GS5.out.below (hb _ _ GL.out HB6.out)⟩; have B7 := Aside0.mk hA; clear hA hb ho hs B6 HB5 HB6 GS5)
    | (go_at_call 25; (with_reducible refine (add_may (x := 127) (y := 4294967297) (m := false) GS7.out M3.out).mono ?_); rintro e w8 ⟨rfl, hb⟩; have HB8 := Aside0.mk (below_step HB7.out hb); have q0 : w8.cell? ⟨g15, 0, none⟩ = some (.int .i64 a) := pw_cell_below hb (blk_cell B7.out 0); have q1 : w8.cell? ⟨g15, 1, none⟩ = some (.int .i64 1) := pw_cell_below hb (blk_cell B7.out 1); clear hb GS7 HB7)
    | (go_at_call 28; (with_reducible refine (num_calls _ _).mono ?_); rintro e w' ⟨rfl, rfl⟩))
  go_ret
  exact ⟨rfl, HB8.out⟩
set_option maxHeartbeats 4000000 in
theorem types_cn {w : World} {nb kind other a b x : Int} {m : Bool} (ha : wrap64 (127 - wrap64 ((IntKind.u64.wrap kind).tmod 4)) = a) (hb : wrap64 (127 - wrap64 ((IntKind.u64.wrap other).tmod 4)) = a) (hx : Go.bits .and .i64 nb 4294967295 = x) (ka : a = 127 ∨ a = 126 ∨ a = 125 ∨ a = 124) (hx0 : 0 ≤ x) (hx1 : x < 4294967296) (hxn : x ≠ 1) : Calls Try.prog 4 #[.int .i64 nb, .int .i64 kind, .int .i64 other, .bool false] w fun e w' => e = .returned (.bool true) ∧ Below w.heap.size w w' := by
  have hu29 := Try.underlying29
  have M1 := Aside0.mk (may_low ka (by decide : (0 : Int) ≤ 1) (by decide))
  have M2 := Aside0.mk (may_low ka hx0 hx1)
  have M3 : Aside0 (mayV 127 (4294967296 + x) = false) := ⟨may_high hx0⟩
  have w1 : wrap64 (4294967296 + x) = 4294967296 + x := by unfold wrap64; omega
  have d2 : (x == 1) = false := by simpa using hxn
  have d3 : ((1 : Int) == x) = false := by simpa using fun e : (1 : Int) = x => hxn e.symm
  clear hxn
  clear ka
  go_enter Try.func4, Try.ntmps4
  go_wp2_with (first
    | (go_at_call 23; refine (awake_calls _).mono ?_; rintro e w1 ⟨rfl, hb⟩; have HB1 := Aside0.mk hb; clear hb)
    | (go_at_call 24; (with_reducible refine (new_calls w1).mono ?_); rintro e w2 ⟨g, rfl, hg, hb⟩; have GS2 : Aside0 (Gs w2 g (S0 w) []) := ⟨hg.mono (fun k hk => Nat.le_trans HB1.out.size hk)⟩; have HB2 := Aside0.mk (below_step HB1.out hb); clear hg hb HB1)
    | (go_at_call 25; (with_reducible refine (add_fits (x := a) (y := 1) (m := false) GS2.out M1.out (by decide)).mono ?_); rintro e w3 ⟨rfl, hg, hf⟩; have HB3 := Aside0.mk (below_fr HB2.out hf); have GS3 : Aside0 (Gs w3 g (S0 w) ([⟨a, 1, false⟩] : List Gl)) := ⟨hg.up HB2.out.size⟩; clear HB2 GS2 hg hf)
    | (go_at_call 26; (with_reducible refine (set_const (k := 0) (x := a) (y := x) GS3.out (by decide) (by simp) M2.out rfl rfl).mono ?_); rintro e w4 ⟨rfl, hb⟩; have HB4 := Aside0.mk (below_step HB3.out hb); have GS4 := Aside0.mk (GS3.out.below hb); clear hb GS3 HB3)
    | (go_at_call 27; (with_reducible refine (get_in (k := 0) GS4.out (by decide) (by simp)).mono ?_); rintro e w5 ⟨rfl, hb⟩; have HB5 := Aside0.mk (below_step HB4.out hb); have GS5 := Aside0.mk (GS4.out.below hb); clear hb GS4 HB4)
    | ((with_reducible refine gate_dst (N := 15) rfl ?_); refine box_event ?hg (N := 15) ?hd (cs := #[.int .i64 0, .int .i64 0]) (t := 29) ?hr ?_; (case hd => rfl); (case hg => rfl); (case hr => first | (go_simp; done) | (go_simp; rfl)); intro g15 hgg15 w6 hA hb; have GL := Aside0.mk (show w5.heap.size ≤ g15 by rw [hgg15]; exact Nat.le_refl _); have HB6 := Aside0.mk hb; have B6 := Aside0.mk hA; clear hA hb hgg15)
    | ((with_reducible refine gate_store (p := 15) rfl ?_); refine storeRow_event (g := g15) rfl rfl rfl (cs := #[.int .i64 a, .int .i64 1]) rfl rfl B6.out (by kernel_rfl) rfl (by simp [Value.oneCell']) ?_; intro w7 hA hb ho hs; have HB7 := Aside0.mk (below_step HB5.out (hb _ _ GL.out HB6.out)); have GS7 : Aside0 (Gs w7 g (S0 w) ([⟨a, 1, false⟩] : List Gl)) := ⟨GS5.out.below (hb _ _ GL.out HB6.out)⟩; have B7 := Aside0.mk hA; clear hA hb ho hs B6 HB5 HB6 GS5)
    | (go_at_call 25; (with_reducible refine (add_may (x := 127) (y := 4294967296 + x) (m := false) GS7.out M3.out).mono ?_); rintro e w8 ⟨rfl, hb⟩; have HB8 := Aside0.mk (below_step HB7.out hb); have q0 : w8.cell? ⟨g15, 0, none⟩ = some (.int .i64 a) := pw_cell_below hb (blk_cell B7.out 0); have q1 : w8.cell? ⟨g15, 1, none⟩ = some (.int .i64 1) := pw_cell_below hb (blk_cell B7.out 1); clear hb GS7 HB7)
    | (go_at_call 28; (with_reducible refine (num_calls _ _).mono ?_); rintro e w' ⟨rfl, rfl⟩))
  go_ret
  exact ⟨rfl, HB8.out⟩
set_option maxHeartbeats 4000000 in
theorem types_t1 {w : World} {nb kind other a b x : Int} {m : Bool} (ha : wrap64 (127 - wrap64 ((IntKind.u64.wrap kind).tmod 4)) = a) (hb : wrap64 (127 - wrap64 ((IntKind.u64.wrap other).tmod 4)) = b) (hx : Go.bits .and .i64 nb 4294967295 = 1) (ka : a = 127 ∨ a = 126 ∨ a = 125 ∨ a = 124) (kb : b = 127 ∨ b = 126 ∨ b = 125 ∨ b = 124) (hne : a ≠ b) : Calls Try.prog 4 #[.int .i64 nb, .int .i64 kind, .int .i64 other, .bool m] w fun e w' => e = .returned (.bool true) ∧ Below w.heap.size w w' := by
  have hu29 := Try.underlying29
  have M1 := Aside0.mk (may_low ka (by decide : (0 : Int) ≤ 1) (by decide))
  have M2 := Aside0.mk (may_low kb (by decide : (0 : Int) ≤ 1) (by decide : (1 : Int) < 4294967296))
  have M3 : Aside0 (mayV 127 (4294967297) = false) := ⟨by decide⟩
  have d1 : (a != b) = true := by simpa using hne
  have HN : Aside0 ((rdG ([⟨a, 1, m⟩] : List Gl) 0).ty ≠ b) := ⟨hne⟩
  clear hne kb
  clear ka
  go_enter Try.func4, Try.ntmps4
  go_wp2_with (first
    | (go_at_call 23; refine (awake_calls _).mono ?_; rintro e w1 ⟨rfl, hb⟩; have HB1 := Aside0.mk hb; clear hb)
    | (go_at_call 24; (with_reducible refine (new_calls w1).mono ?_); rintro e w2 ⟨g, rfl, hg, hb⟩; have GS2 : Aside0 (Gs w2 g (S0 w) []) := ⟨hg.mono (fun k hk => Nat.le_trans HB1.out.size hk)⟩; have HB2 := Aside0.mk (below_step HB1.out hb); clear hg hb HB1)
    | (go_at_call 25; (with_reducible refine (add_fits (x := a) (y := 1) (m := m) GS2.out M1.out (by decide)).mono ?_); rintro e w3 ⟨rfl, hg, hf⟩; have HB3 := Aside0.mk (below_fr HB2.out hf); have GS3 : Aside0 (Gs w3 g (S0 w) ([⟨a, 1, m⟩] : List Gl)) := ⟨hg.up HB2.out.size⟩; clear HB2 GS2 hg hf)
    | (go_at_call 26; (with_reducible refine (set_type (k := 0) (x := b) (y := 1) GS3.out (by decide) (by simp) M2.out HN.out).mono ?_); rintro e w4 ⟨rfl, hb⟩; have HB4 := Aside0.mk (below_step HB3.out hb); have GS4 := Aside0.mk (GS3.out.below hb); clear hb GS3 HB3)
    | (go_at_call 27; (with_reducible refine (get_in (k := 0) GS4.out (by decide) (by simp)).mono ?_); rintro e w5 ⟨rfl, hb⟩; have HB5 := Aside0.mk (below_step HB4.out hb); have GS5 := Aside0.mk (GS4.out.below hb); clear hb GS4 HB4)
    | ((with_reducible refine gate_dst (N := 15) rfl ?_); refine box_event ?hg (N := 15) ?hd (cs := #[.int .i64 0, .int .i64 0]) (t := 29) ?hr ?_; (case hd => rfl); (case hg => rfl); (case hr => first | (go_simp; done) | (go_simp; rfl)); intro g15 hgg15 w6 hA hb; have GL := Aside0.mk (show w5.heap.size ≤ g15 by rw [hgg15]; exact Nat.le_refl _); have HB6 := Aside0.mk hb; have B6 := Aside0.mk hA; clear hA hb hgg15)
    | ((with_reducible refine gate_store (p := 15) rfl ?_); refine storeRow_event (g := g15) rfl rfl rfl (cs := #[.int .i64 a, .int .i64 1]) rfl rfl B6.out (by kernel_rfl) rfl (by simp [Value.oneCell']) ?_; intro w7 hA hb ho hs; have HB7 := Aside0.mk (below_step HB5.out (hb _ _ GL.out HB6.out)); have GS7 : Aside0 (Gs w7 g (S0 w) ([⟨a, 1, m⟩] : List Gl)) := ⟨GS5.out.below (hb _ _ GL.out HB6.out)⟩; have B7 := Aside0.mk hA; clear hA hb ho hs B6 HB5 HB6 GS5)
    | (go_at_call 25; (with_reducible refine (add_may (x := 127) (y := 4294967297) (m := m) GS7.out M3.out).mono ?_); rintro e w8 ⟨rfl, hb⟩; have HB8 := Aside0.mk (below_step HB7.out hb); have q0 : w8.cell? ⟨g15, 0, none⟩ = some (.int .i64 a) := pw_cell_below hb (blk_cell B7.out 0); have q1 : w8.cell? ⟨g15, 1, none⟩ = some (.int .i64 1) := pw_cell_below hb (blk_cell B7.out 1); clear hb GS7 HB7)
    | (go_at_call 28; (with_reducible refine (num_calls _ _).mono ?_); rintro e w' ⟨rfl, rfl⟩))
  go_ret
  exact ⟨rfl, HB8.out⟩
set_option maxHeartbeats 4000000 in
theorem types_tn {w : World} {nb kind other a b x : Int} {m : Bool} (ha : wrap64 (127 - wrap64 ((IntKind.u64.wrap kind).tmod 4)) = a) (hb : wrap64 (127 - wrap64 ((IntKind.u64.wrap other).tmod 4)) = b) (hx : Go.bits .and .i64 nb 4294967295 = x) (ka : a = 127 ∨ a = 126 ∨ a = 125 ∨ a = 124) (kb : b = 127 ∨ b = 126 ∨ b = 125 ∨ b = 124) (hne : a ≠ b) (hx0 : 0 ≤ x) (hx1 : x < 4294967296) (hxn : x ≠ 1) : Calls Try.prog 4 #[.int .i64 nb, .int .i64 kind, .int .i64 other, .bool m] w fun e w' => e = .returned (.bool true) ∧ Below w.heap.size w w' := by
  have hu29 := Try.underlying29
  have M1 := Aside0.mk (may_low ka (by decide : (0 : Int) ≤ 1) (by decide))
  have M2 := Aside0.mk (may_low kb hx0 hx1)
  have M3 : Aside0 (mayV 127 (4294967296 + x) = false) := ⟨may_high hx0⟩
  have w1 : wrap64 (4294967296 + x) = 4294967296 + x := by unfold wrap64; omega
  have d1 : (a != b) = true := by simpa using hne
  have HN : Aside0 ((rdG ([⟨a, 1, m⟩] : List Gl) 0).ty ≠ b) := ⟨hne⟩
  clear hne kb
  have d2 : (x == 1) = false := by simpa using hxn
  have d3 : ((1 : Int) == x) = false := by simpa using fun e : (1 : Int) = x => hxn e.symm
  clear hxn
  clear ka
  go_enter Try.func4, Try.ntmps4
  go_wp2_with (first
    | (go_at_call 23; refine (awake_calls _).mono ?_; rintro e w1 ⟨rfl, hb⟩; have HB1 := Aside0.mk hb; clear hb)
    | (go_at_call 24; (with_reducible refine (new_calls w1).mono ?_); rintro e w2 ⟨g, rfl, hg, hb⟩; have GS2 : Aside0 (Gs w2 g (S0 w) []) := ⟨hg.mono (fun k hk => Nat.le_trans HB1.out.size hk)⟩; have HB2 := Aside0.mk (below_step HB1.out hb); clear hg hb HB1)
    | (go_at_call 25; (with_reducible refine (add_fits (x := a) (y := 1) (m := m) GS2.out M1.out (by decide)).mono ?_); rintro e w3 ⟨rfl, hg, hf⟩; have HB3 := Aside0.mk (below_fr HB2.out hf); have GS3 : Aside0 (Gs w3 g (S0 w) ([⟨a, 1, m⟩] : List Gl)) := ⟨hg.up HB2.out.size⟩; clear HB2 GS2 hg hf)
    | (go_at_call 26; (with_reducible refine (set_type (k := 0) (x := b) (y := x) GS3.out (by decide) (by simp) M2.out HN.out).mono ?_); rintro e w4 ⟨rfl, hb⟩; have HB4 := Aside0.mk (below_step HB3.out hb); have GS4 := Aside0.mk (GS3.out.below hb); clear hb GS3 HB3)
    | (go_at_call 27; (with_reducible refine (get_in (k := 0) GS4.out (by decide) (by simp)).mono ?_); rintro e w5 ⟨rfl, hb⟩; have HB5 := Aside0.mk (below_step HB4.out hb); have GS5 := Aside0.mk (GS4.out.below hb); clear hb GS4 HB4)
    | ((with_reducible refine gate_dst (N := 15) rfl ?_); refine box_event ?hg (N := 15) ?hd (cs := #[.int .i64 0, .int .i64 0]) (t := 29) ?hr ?_; (case hd => rfl); (case hg => rfl); (case hr => first | (go_simp; done) | (go_simp; rfl)); intro g15 hgg15 w6 hA hb; have GL := Aside0.mk (show w5.heap.size ≤ g15 by rw [hgg15]; exact Nat.le_refl _); have HB6 := Aside0.mk hb; have B6 := Aside0.mk hA; clear hA hb hgg15)
    | ((with_reducible refine gate_store (p := 15) rfl ?_); refine storeRow_event (g := g15) rfl rfl rfl (cs := #[.int .i64 a, .int .i64 1]) rfl rfl B6.out (by kernel_rfl) rfl (by simp [Value.oneCell']) ?_; intro w7 hA hb ho hs; have HB7 := Aside0.mk (below_step HB5.out (hb _ _ GL.out HB6.out)); have GS7 : Aside0 (Gs w7 g (S0 w) ([⟨a, 1, m⟩] : List Gl)) := ⟨GS5.out.below (hb _ _ GL.out HB6.out)⟩; have B7 := Aside0.mk hA; clear hA hb ho hs B6 HB5 HB6 GS5)
    | (go_at_call 25; (with_reducible refine (add_may (x := 127) (y := 4294967296 + x) (m := m) GS7.out M3.out).mono ?_); rintro e w8 ⟨rfl, hb⟩; have HB8 := Aside0.mk (below_step HB7.out hb); have q0 : w8.cell? ⟨g15, 0, none⟩ = some (.int .i64 a) := pw_cell_below hb (blk_cell B7.out 0); have q1 : w8.cell? ⟨g15, 1, none⟩ = some (.int .i64 1) := pw_cell_below hb (blk_cell B7.out 1); clear hb GS7 HB7)
    | (go_at_call 28; (with_reducible refine (num_calls _ _).mono ?_); rintro e w' ⟨rfl, rfl⟩))
  go_ret
  exact ⟨rfl, HB8.out⟩
theorem types_calls {w : World} {nb kind other : Int} {m : Bool} : Calls Try.prog 4 #[.int .i64 nb, .int .i64 kind, .int .i64 other, .bool m] w fun e w' => e = .returned (.bool true) ∧ Below w.heap.size w w' := by
  obtain ⟨a, ha, ka⟩ := kind_of kind
  obtain ⟨b, hb, kb⟩ := kind_of other
  obtain ⟨x, hx, hx0, hx1⟩ := and_low nb
  by_cases hab : a = b
  · subst hab
    cases m with
    | true => exact types_ok (b := a) (m := true) ha hb hx ka hx0 hx1
    | false =>
      by_cases h1 : x = 1
      · subst h1
        exact types_c1 (b := a) (x := 1) (m := false) ha hb hx ka
      · exact types_cn (b := a) (m := false) ha hb hx ka hx0 hx1 h1
  · by_cases h1 : x = 1
    · subst h1
      exact types_t1 (x := 1) ha hb hx ka kb hab
    · exact types_tn ha hb hx ka kb hab hx0 hx1 h1
end Go.Proofs.Ytddfoogbakiojaa.EGlob
