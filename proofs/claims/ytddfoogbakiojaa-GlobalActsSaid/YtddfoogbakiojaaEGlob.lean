/-
  The contracts of pelorus/globals: New, Add, Get, Set, All over a state that lies behind its pointer.
-/
import Derived.Test.YtddfoogbakiojaaWFr
import Derived.Test.YtddfoogbakiojaaPureVals
namespace Go.Proofs.Ytddfoogbakiojaa.EGlob
open Go Go.RowKit Go.Proofs.Ytddfoogbakiojaa.F Go.Proofs.Ytddfoogbakiojaa.PureVals Go.Proofs.YtddfoogbakiojaaW.Hand Go.Proofs.YtddfoogbakiojaaW.PrintWords Go.Proofs.YtddfoogbakiojaaW.PrintLast Go.Proofs.YtddfoogbakiojaaW.PrintMore
set_option linter.unusedVariables false
set_option linter.unusedSimpArgs false

structure Gl where
  ty : Int
  bits : Int
  mt : Bool
def kG : Kd Gl := Kd.iso (Kd.pair (Kd.int .i64) (Kd.pair (Kd.int .i64) Kd.bool)) (fun x : Gl => (x.ty, x.bits, x.mt))
theorem kG_open {w : World} {x : Gl} {cs : List Value} (h : kG.K w x cs) : cs = [.int .i64 x.ty, .int .i64 x.bits, .bool x.mt] := by
  obtain ⟨c0, r0, rfl, h0, c1, r1, rfl, h1, h2⟩ := h
  obtain rfl := h0
  obtain rfl := h1
  obtain rfl := h2
  rfl
theorem kG_mk (w : World) (x : Gl) : kG.K w x [.int .i64 x.ty, .int .i64 x.bits, .bool x.mt] := ⟨[.int .i64 x.ty], _, rfl, rfl, [.int .i64 x.bits], _, rfl, rfl, rfl⟩
theorem kG_mkM (w : World) (base : Nat) (ok : Nat → Prop) (x : Gl) : kG.M w base ok x [.int .i64 x.ty, .int .i64 x.bits, .bool x.mt] := ⟨[.int .i64 x.ty], _, rfl, rfl, [.int .i64 x.bits], _, rfl, rfl, rfl⟩
/-- Globals behind block g; all of them lies in S. -/
def Gs (W : World) (g : Nat) (S : Nat → Prop) (xs : List Gl) : Prop := ∃ v, W.heap[g]? = some (.cells #[v] 72 (0, 0)) ∧ S g ∧ kG.R 75 W 0 (fun k => S k ∧ k ≠ g) v xs
section
variable {w w1 : World} {g : Nat} {S S2 T : Nat → Prop} {xs : List Gl}
theorem Gs.mono (h : Gs w g S xs) (hs : ∀ k, S k → S2 k) : Gs w g S2 xs := by
  obtain ⟨v, h1, h2, h3⟩ := h
  exact ⟨v, h1, hs _ h2, Kd.R_mono h3 (fun k hk => ⟨hs k hk.1, hk.2⟩)⟩
theorem Gs.bound (h : Gs w g S xs) : Gs w g (fun k => S k ∧ k < w.heap.size) xs := by
  obtain ⟨v, h1, h2, h3⟩ := h
  exact ⟨v, h1, ⟨h2, blk_lt h1⟩, Kd.R_mono (Kd.R_bound h3) (fun k hk => ⟨⟨hk.1.1, hk.2.2.1⟩, hk.1.2⟩)⟩
theorem Gs.frame (h : Gs w g S xs) (hf : Fr w w1 T) (hd : ∀ k, S k → k < w.heap.size → ¬ T k) : Gs w1 g S xs := by
  obtain ⟨v, h1, h2, h3⟩ := h
  exact ⟨v, hf.block h1 (hd _ h2 (blk_lt h1)), h2, Kd.R_step h3 (fun k hk hlt => hf.k.2 k hlt (hd k hk.1 hlt))⟩
theorem Gs.below (h : Gs w g S xs) (hb : Below w.heap.size w w1) : Gs w1 g S xs := h.frame (Fr.of_below hb (fun _ => False)) (fun _ _ _ h => h)
end
theorem C_lit {W : World} {gl : Nat} {x y : Int} {m : Bool} (h : W.heap[gl]? = some (.cells #[.int .i64 x, .int .i64 y, .bool m] 75 (0, 0))) : kG.C W (some ⟨gl, 0, none⟩) 1 [(⟨x, y, m⟩ : Gl)] := by
  refine ⟨rfl, by simp, fun _ => ⟨_, rfl, fun j p hp => ?_⟩⟩
  cases j with
  | zero =>
    obtain rfl : (⟨x, y, m⟩ : Gl) = p := by simpa using hp
    refine ⟨[.int .i64 x, .int .i64 y, .bool m], rfl, kG_mk W ⟨x, y, m⟩, fun i u hu => ?_⟩
    rw [add_plain, blk_cell h]
    simpa using hu
  | succ j => simp at hp
def addC (xs : List Gl) (x y : Int) : Bool := mayV x y && decide (xs.length < 1024)
def addG (xs : List Gl) (x y : Int) (m : Bool) : Int × List Gl := if addC xs x y = true then (0, xs ++ [⟨x, y, m⟩]) else (1000, xs)
theorem may_calls (x y : Int) (w : World) : Calls Try.prog 42 #[.agg #[.int .i64 x, .int .i64 y]] w fun e w' => e = .returned (.bool (mayV x y)) ∧ Below w.heap.size w w' := by
  obtain ⟨k, hk⟩ := (may_ev x y).rounds
  exact (apply_May.calls k _ _ _ w hk).mono fun _ _ hh => ⟨hh.1, by first | exact hh.2 | exact hh.2.below⟩
theorem may_calls_v {x y : Int} {b : Bool} (hb : mayV x y = b) (w : World) : Calls Try.prog 42 #[.agg #[.int .i64 x, .int .i64 y]] w fun e w' => e = .returned (.bool b) ∧ Below w.heap.size w w' := by
  subst hb
  exact may_calls x y w
theorem new_calls (w : World) : Calls Try.prog 24 #[] w fun e w' => ∃ g, e = .returned (.pointer (some ⟨g, 0, none⟩)) ∧ Gs w' g (fun k => w.heap.size ≤ k) [] ∧ Below w.heap.size w w' := by
  have hu72 := Try.underlying72
  go_enter Try.func24, Try.ntmps24
  go_wp2_with (first
    | ((with_reducible refine gate_dst (N := 2) rfl ?_); refine box_event ?hg (N := 2) ?hd (cs := #[.slice none 0 0]) (t := 72) ?hr ?_; (case hd => rfl); (case hg => rfl); (case hr => first | (go_simp; done) | (go_simp; rfl)); intro g hgg w1 hA hb; have G := Aside0.mk (show Gs w1 g (fun k => w.heap.size ≤ k) [] from ⟨_, hA, by show w.heap.size ≤ g; rw [hgg]; exact Nat.le_refl _, Kd.R_nil _ _ _ _ _⟩); have HB := Aside0.mk hb; clear hA hb hgg))
  go_ret
  exact ⟨g, rfl, G.out, HB.out⟩
set_option maxHeartbeats 1000000 in
theorem add_may {w : World} {g : Nat} {S : Nat → Prop} {xs : List Gl} {x y : Int} {m : Bool} (h : Gs w g S xs) (hmay : mayV x y = false) :
    Calls Try.prog 25 #[.pointer (some ⟨g, 0, none⟩), .agg #[.int .i64 x, .int .i64 y], .bool m] w fun e w' => e = .returned (.int .i64 1000) ∧ Below w.heap.size w w' := by
  have hu29 := Try.underlying29
  have hu75 := Try.underlying75
  have hu70 := Try.underlying70
  have hu72 := Try.underlying72
  obtain ⟨v, hg, hS, hR⟩ := h
  obtain ⟨A, c, rfl⟩ := Kd.R_slice hR
  have HG := Aside0.mk hg
  have HS := Aside0.mk hS
  have HR := Aside0.mk hR
  have C1 := Aside0.mk (fun W => may_calls_v (x := x) (y := y) hmay W)
  clear hmay hg hS hR
  go_enter Try.func25, Try.ntmps25
  go_wp2_with (first
    | ((with_reducible refine gate_dst (N := 4) rfl ?_); refine box_event ?hg (N := 4) ?hd (cs := #[.int .i64 x, .int .i64 y]) (t := 29) ?hr ?_; (case hd => rfl); (case hg => rfl); (case hr => first | (go_simp; done) | (go_simp; rfl)); intro gb hggb w1 hA hb; have GL := Aside0.mk (show w.heap.size ≤ gb by rw [hggb]; exact Nat.le_refl _); have HB := Aside0.mk hb; have BB := Aside0.mk hA; have HG1 := Aside0.mk (blk_below HG.out hb); have x0 : w1.cell? ⟨gb, 0, none⟩ = some (.int .i64 x) := blk_cell BB.out 0; have x1 : w1.cell? ⟨gb, 1, none⟩ = some (.int .i64 y) := blk_cell BB.out 1; clear hA hb hggb)
    | (go_at_call 42; (with_reducible refine (C1.out _).mono ?_); rintro e w2 ⟨rfl, hb⟩; have HB2 := Aside0.mk (below_step HB.out hb); have BB2 := Aside0.mk (blk_below BB.out hb); have HG2 := Aside0.mk (blk_below HG1.out hb); have y0 : w2.cell? ⟨gb, 0, none⟩ = some (.int .i64 x) := blk_cell BB2.out 0; have y1 : w2.cell? ⟨gb, 1, none⟩ = some (.int .i64 y) := blk_cell BB2.out 1; have y2 : w2.cell? ⟨g, 0, none⟩ = some (.slice A xs.length c) := blk_cell HG2.out 0; clear hb HB BB HG1 x0 x1))
  go_ret
  exact ⟨rfl, HB2.out⟩
set_option maxHeartbeats 1000000 in
theorem add_full {w : World} {g : Nat} {S : Nat → Prop} {xs : List Gl} {x y : Int} {m : Bool} (h : Gs w g S xs) (hmay : mayV x y = true) (hl : decide ((xs.length : Int) ≥ 1024) = true) :
    Calls Try.prog 25 #[.pointer (some ⟨g, 0, none⟩), .agg #[.int .i64 x, .int .i64 y], .bool m] w fun e w' => e = .returned (.int .i64 1000) ∧ Below w.heap.size w w' := by
  have hu29 := Try.underlying29
  have hu75 := Try.underlying75
  have hu70 := Try.underlying70
  have hu72 := Try.underlying72
  obtain ⟨v, hg, hS, hR⟩ := h
  obtain ⟨A, c, rfl⟩ := Kd.R_slice hR
  have HG := Aside0.mk hg
  have HS := Aside0.mk hS
  have HR := Aside0.mk hR
  have C1 := Aside0.mk (fun W => may_calls_v (x := x) (y := y) hmay W)
  clear hmay hg hS hR
  go_enter Try.func25, Try.ntmps25
  go_wp2_with (first
    | ((with_reducible refine gate_dst (N := 4) rfl ?_); refine box_event ?hg (N := 4) ?hd (cs := #[.int .i64 x, .int .i64 y]) (t := 29) ?hr ?_; (case hd => rfl); (case hg => rfl); (case hr => first | (go_simp; done) | (go_simp; rfl)); intro gb hggb w1 hA hb; have GL := Aside0.mk (show w.heap.size ≤ gb by rw [hggb]; exact Nat.le_refl _); have HB := Aside0.mk hb; have BB := Aside0.mk hA; have HG1 := Aside0.mk (blk_below HG.out hb); have x0 : w1.cell? ⟨gb, 0, none⟩ = some (.int .i64 x) := blk_cell BB.out 0; have x1 : w1.cell? ⟨gb, 1, none⟩ = some (.int .i64 y) := blk_cell BB.out 1; clear hA hb hggb)
    | (go_at_call 42; (with_reducible refine (C1.out _).mono ?_); rintro e w2 ⟨rfl, hb⟩; have HB2 := Aside0.mk (below_step HB.out hb); have BB2 := Aside0.mk (blk_below BB.out hb); have HG2 := Aside0.mk (blk_below HG1.out hb); have y0 : w2.cell? ⟨gb, 0, none⟩ = some (.int .i64 x) := blk_cell BB2.out 0; have y1 : w2.cell? ⟨gb, 1, none⟩ = some (.int .i64 y) := blk_cell BB2.out 1; have y2 : w2.cell? ⟨g, 0, none⟩ = some (.slice A xs.length c) := blk_cell HG2.out 0; clear hb HB BB HG1 x0 x1))
  go_ret
  exact ⟨rfl, HB2.out⟩
set_option maxHeartbeats 2000000 in
theorem add_fits {w : World} {g : Nat} {S : Nat → Prop} {xs : List Gl} {x y : Int} {m : Bool} (h : Gs w g S xs) (hmay : mayV x y = true) (hlt : xs.length < 1024) :
    Calls Try.prog 25 #[.pointer (some ⟨g, 0, none⟩), .agg #[.int .i64 x, .int .i64 y], .bool m] w fun e w' => e = .returned (.int .i64 0) ∧ Gs w' g (fun k => S k ∨ w.heap.size ≤ k) (xs ++ [⟨x, y, m⟩]) ∧ Fr w w' S := by
  have hl : decide ((xs.length : Int) ≥ 1024) = false := by simp; omega
  have HL := Aside0.mk hlt
  clear hlt
  have hu29 := Try.underlying29
  have hu75 := Try.underlying75
  have hu70 := Try.underlying70
  have hu72 := Try.underlying72
  obtain ⟨v, hg, hS, hR⟩ := h
  obtain ⟨A, c, rfl⟩ := Kd.R_slice hR
  have HG := Aside0.mk hg
  have HS := Aside0.mk hS
  have HR := Aside0.mk hR
  have C1 := Aside0.mk (fun W => may_calls_v (x := x) (y := y) hmay W)
  clear hmay hg hS hR
  go_enter Try.func25, Try.ntmps25
  go_wp2_with (first
    | ((with_reducible refine gate_dst (N := 4) rfl ?_); refine box_event ?hg (N := 4) ?hd (cs := #[.int .i64 x, .int .i64 y]) (t := 29) ?hr ?_; (case hd => rfl); (case hg => rfl); (case hr => first | (go_simp; done) | (go_simp; rfl)); intro gb hggb w1 hA hb; have GL := Aside0.mk (show w.heap.size ≤ gb by rw [hggb]; exact Nat.le_refl _); have HB := Aside0.mk hb; have BB := Aside0.mk hA; have HG1 := Aside0.mk (blk_below HG.out hb); have x0 : w1.cell? ⟨gb, 0, none⟩ = some (.int .i64 x) := blk_cell BB.out 0; have x1 : w1.cell? ⟨gb, 1, none⟩ = some (.int .i64 y) := blk_cell BB.out 1; clear hA hb hggb)
    | (go_at_call 42; (with_reducible refine (C1.out _).mono ?_); rintro e w2 ⟨rfl, hb⟩; have HB2 := Aside0.mk (below_step HB.out hb); have BB2 := Aside0.mk (blk_below BB.out hb); have HG2 := Aside0.mk (blk_below HG1.out hb); have y0 : w2.cell? ⟨gb, 0, none⟩ = some (.int .i64 x) := blk_cell BB2.out 0; have y1 : w2.cell? ⟨gb, 1, none⟩ = some (.int .i64 y) := blk_cell BB2.out 1; have y2 : w2.cell? ⟨g, 0, none⟩ = some (.slice A xs.length c) := blk_cell HG2.out 0; clear hb HB BB HG1 x0 x1))
  refine start_ (n := 13) (S := fun w' => w'.cell? ⟨g, 0, none⟩ = some (.slice A xs.length c) ∧ w'.cell? ⟨gb, 0, none⟩ = some (.int .i64 x) ∧ w'.cell? ⟨gb, 1, none⟩ = some (.int .i64 y)) (ds := [12]) #[false, false, false, false, false, false, false, false, false, false, false, false, false] (by kernel_rfl) rfl rfl ⟨y2, y0, y1⟩ (fun hHeld => ?_)
  refine pure_ (i := 0) (N := some 22) (v := ?_) (a' := ?_) #[true, false, false, false, false, false, false, false, false, false, false, false, false] rfl rfl (by kernel_rfl) (fun _ _ _ h => h) (Or.inl ⟨by rfl, ?_⟩) ?_ ?_
  rotate_left
  · intro w'
    go_simp
    with_reducible rfl
  rotate_left
  · simp only [Act.put, List.setIfInBounds_toArray, List.set_cons_zero, List.set_cons_succ, i64_w, i32_w]
    rfl
  refine pure_ (i := 1) (N := some 23) (v := ?_) (a' := ?_) #[true, true, false, false, false, false, false, false, false, false, false, false, false] rfl rfl (by kernel_rfl) (fun _ _ _ h => h) (Or.inl ⟨by rfl, ?_⟩) ?_ ?_
  rotate_left
  · intro w'
    go_simp
    with_reducible rfl
  rotate_left
  · simp only [Act.put, List.setIfInBounds_toArray, List.set_cons_zero, List.set_cons_succ, i64_w, i32_w]
    rfl
  refine pure_ (i := 2) (N := some 24) (v := ?_) (a' := ?_) #[true, true, true, false, false, false, false, false, false, false, false, false, false] rfl rfl (by kernel_rfl) (fun _ _ _ h => h) (Or.inl ⟨by rfl, ?_⟩) ?_ ?_
  rotate_left
  · intro w'
    go_simp
    with_reducible rfl
  rotate_left
  · simp only [Act.put, List.setIfInBounds_toArray, List.set_cons_zero, List.set_cons_succ, i64_w, i32_w]
    rfl
  refine pure_ (i := 3) (N := some 25) (v := ?_) (a' := ?_) #[true, true, true, true, false, false, false, false, false, false, false, false, false] rfl rfl (by kernel_rfl) (fun _ _ _ h => h) (Or.inl ⟨by rfl, ?_⟩) ?_ ?_
  rotate_left
  · intro w'
    go_simp
    with_reducible rfl
  rotate_left
  · simp only [Act.put, List.setIfInBounds_toArray, List.set_cons_zero, List.set_cons_succ, i64_w, i32_w]
    rfl
  refine pure_ (i := 6) (N := some 28) (v := ?_) (a' := ?_) #[true, true, true, true, false, false, true, false, false, false, false, false, false] rfl rfl (by kernel_rfl) (fun _ _ _ h => h) (Or.inl ⟨by rfl, ?_⟩) ?_ ?_
  rotate_left
  · intro w'
    go_simp
    with_reducible rfl
  rotate_left
  · simp only [Act.put, List.setIfInBounds_toArray, List.set_cons_zero, List.set_cons_succ, i64_w, i32_w]
    rfl
  refine take_ (i := 4) (N := some 26) (v := ?_) (a' := ?_) #[true, true, true, true, true, false, true, false, false, false, false, false, false] rfl rfl (by kernel_rfl) (fun _ _ _ h => h) (Or.inl ⟨by rfl, ?_⟩) hHeld ?_ ?_
  rotate_left
  · rintro w' ⟨s0, s1, s2⟩
    go_simp
    with_reducible rfl
  rotate_left
  · simp only [Act.put, List.setIfInBounds_toArray, List.set_cons_zero, List.set_cons_succ, i64_w, i32_w]
    rfl
  refine take_ (i := 5) (N := some 27) (v := ?_) (a' := ?_) #[true, true, true, true, true, true, true, false, false, false, false, false, false] rfl rfl (by kernel_rfl) (fun _ _ _ h => h) (Or.inl ⟨by rfl, ?_⟩) hHeld ?_ ?_
  rotate_left
  · rintro w' ⟨s0, s1, s2⟩
    go_simp
    with_reducible rfl
  rotate_left
  · simp only [Act.put, List.setIfInBounds_toArray, List.set_cons_zero, List.set_cons_succ, i64_w, i32_w]
    rfl
  refine pure_ (i := 7) (N := some 29) (v := ?_) (a' := ?_) #[true, true, true, true, true, true, true, true, false, false, false, false, false] rfl rfl (by kernel_rfl) (fun _ _ _ h => h) (Or.inl ⟨by rfl, ?_⟩) ?_ ?_
  rotate_left
  · intro w'
    go_simp
    with_reducible rfl
  rotate_left
  · simp only [Act.put, List.setIfInBounds_toArray, List.set_cons_zero, List.set_cons_succ, i64_w, i32_w]
    rfl
  refine one_ (i := 8) (N := some 30) #[true, true, true, true, true, true, true, true, true, false, false, false, false] rfl rfl (by kernel_rfl) (by decide) (fun K hK => ?_)
  refine lit_step ?hw (N := 30) ?hd (cs := #[.int .i64 x, .int .i64 y, .bool m]) (t := 75) (n := 1) ?hr ?_
  case hw => rfl
  case hd => rfl
  case hr => first | (go_simp; done) | (go_simp; rfl)
  intro gl hgl w3 hA hb
  have BL := Aside0.mk hA
  have HB3 : Aside0 (Below w2.heap.size w2 w3) := ⟨below_step (below_drew (Below.refl _ _)) hb⟩
  have GL3 : Aside0 (w2.heap.size ≤ gl) := ⟨by rw [hgl]; exact Nat.le_refl _⟩
  clear hA hb hgl
  refine hK.out _ _ ⟨pw_cell_below HB3.out y2, pw_cell_below HB3.out y0, pw_cell_below HB3.out y1⟩ (fun hHeld => ?_)
  clear hK K
  refine norm_ (a' := ?_) ?_ ?_
  rotate_left
  · show Act.put _ (some 30) _ = _
    simp only [Act.put, List.setIfInBounds_toArray, List.set_cons_zero, List.set_cons_succ, i64_w, i32_w]
    rfl
  refine one_ (i := 9) (N := some 31) #[true, true, true, true, true, true, true, true, true, true, false, false, false] rfl rfl (by kernel_rfl) (by decide) (fun K hK => ?_)
  refine Kd.R_append_rows_step kG (w0 := w3) (W := w3) 0 ?hw (.tmp 26) (.tmp 30) 70 75 (.agg #[.int .i64 0, .int .i64 0, .bool false]) 24 ?ho hu70 (by kernel_rfl) rfl (by decide) (by decide) (.slice A xs.length c) xs [(⟨x, y, m⟩ : Gl)] (some ⟨gl, 0, none⟩) 1 1 (fun k => (S k ∨ w.heap.size ≤ k) ∧ k ≠ g) (fun _ => False) ?h1 ?h2 (Kd.R_mono (Kd.R_below (Kd.R_below HR.out HB2.out) HB3.out) (fun k hk => ⟨.inl hk.1, hk.2⟩)) (C_lit BL.out) (fun z cs hk => by rw [kG_open hk]; exact kG_mkM _ _ _ _) (fun _ hk => hk.elim) ?h3 (Below.refl _ _) (Nat.zero_le _) (by have := HL.out; simp; omega) ?_
  case hw => rfl
  case ho => rfl
  case h1 => rfl
  case h2 => rfl
  case h3 => exact fun k hk => ⟨.inr (Nat.le_trans (Nat.le_trans HB2.out.size HB3.out.size) hk), fun e => by have := blk_lt HG.out; have := HB2.out.size; have := HB3.out.size; omega⟩
  intro v4 w4 hR hb hgr hat
  obtain ⟨A4, c4, rfl⟩ := Kd.R_slice hR
  have R4 := Aside0.mk hR
  have hne : Aside0 (some g ≠ (Value.slice A xs.length c).ownBlock) := ⟨fun e => (HR.out.1 g e.symm).2 rfl⟩
  have hnb : Aside0 (some gb ≠ (Value.slice A xs.length c).ownBlock) := ⟨fun e => by have := Kd.R_lt HR.out gb e.symm; have := GL.out; omega⟩
  have HG4 := Aside0.mk (blk_grown (blk_below HG2.out HB3.out) hgr hne.out)
  have BB4 := Aside0.mk (blk_grown (blk_below BB2.out HB3.out) hgr hnb.out)
  have FR4 : Aside0 (Fr w w4 S) := ⟨(Fr.of_below (below_step HB2.out HB3.out) S).then_ (Fr.grown (S := fun k => some k = (Value.slice A xs.length c).ownBlock) hgr (fun k hk => hk.symm)) (fun k hk => .inl (HR.out.1 k hk.symm).1)⟩
  clear hR hb hgr hat
  refine hK.out _ _ ⟨blk_cell HG4.out 0, blk_cell BB4.out 0, blk_cell BB4.out 1⟩ (fun hHeld => ?_)
  clear hK K
  refine norm_ (a' := ?_) ?_ ?_
  rotate_left
  · show Act.put _ (some 31) _ = _
    simp only [Act.put, List.setIfInBounds_toArray, List.set_cons_zero, List.set_cons_succ, i64_w, i32_w]
    rfl
  refine pure_ (i := 10) (N := some 32) (v := ?_) (a' := ?_) #[true, true, true, true, true, true, true, true, true, true, true, false, false] rfl rfl (by kernel_rfl) (fun _ _ _ h => h) (Or.inl ⟨by rfl, ?_⟩) ?_ ?_
  rotate_left
  · intro w'
    go_simp
    with_reducible rfl
  rotate_left
  · simp only [Act.put, List.setIfInBounds_toArray, List.set_cons_zero, List.set_cons_succ, i64_w, i32_w]
    rfl
  refine pure_ (i := 11) (N := some 33) (v := ?_) (a' := ?_) #[true, true, true, true, true, true, true, true, true, true, true, true, false] rfl rfl (by kernel_rfl) (fun _ _ _ h => h) (Or.inl ⟨by rfl, ?_⟩) ?_ ?_
  rotate_left
  · intro w'
    go_simp
    with_reducible rfl
  rotate_left
  · simp only [Act.put, List.setIfInBounds_toArray, List.set_cons_zero, List.set_cons_succ, i64_w, i32_w]
    rfl
  refine last_ (i := 12) (N := none) #[true, true, true, true, true, true, true, true, true, true, true, true, true] rfl rfl (by kernel_rfl) (by decide) (fun K hK => ?_)
  refine storeCell_step (g := g) (j := 0) (x := .slice A4 (xs ++ [(⟨x, y, m⟩ : Gl)]).length c4) (by rfl) rfl rfl rfl ?hv HG4.out (by simp) (by kernel_rfl) rfl ?_
  case hv => first | rfl | (simp only [List.length_append, List.length_cons, List.length_nil, Nat.zero_add]; rfl)
  intro w5 hA hb ho hs
  have GZ := Aside0.mk (show Gs w5 g (fun k => S k ∨ w.heap.size ≤ k) (xs ++ [⟨x, y, m⟩]) from ⟨_, hA, .inl HS.out, Kd.R_step R4.out (fun k hk _ => ho k hk.2)⟩)
  have FZ : Aside0 (Fr w w5 S) := ⟨FR4.out.then_ (Fr.stored (S := fun k => k = g) hb ho hs rfl) (fun k hk => .inl (hk ▸ HS.out))⟩
  clear hA hb ho hs
  refine hK.out _ _ ?_
  clear hK K
  refine done_ (by kernel_rfl) ?_

  go_wp2_with fail
  go_ret
  exact ⟨rfl, GZ.out, FZ.out⟩
end Go.Proofs.Ytddfoogbakiojaa.EGlob
