/-
  The contracts of the document's own globals: Add.
-/
import Derived.Test.YtddfoogbakiojaaEGlobAll
namespace Go.Proofs.Ytddfoogbakiojaa.EGlob
open Go Go.RowKit Go.Proofs.Ytddfoogbakiojaa.F Go.Proofs.Ytddfoogbakiojaa.PureVals Go.Proofs.YtddfoogbakiojaaW.Hand Go.Proofs.YtddfoogbakiojaaW.PrintWords Go.Proofs.YtddfoogbakiojaaW.PrintLast Go.Proofs.YtddfoogbakiojaaW.PrintMore
set_option linter.unusedVariables false
set_option linter.unusedSimpArgs false
/-- Of two rows of other types neither is the other. -/
theorem R_other {α β : Type} {d : Kd α} {d' : Kd β} {e e' b b' : Nat} {w : World} {ok ok' : Nat → Prop} {v v' : Value} {xs : List α} {ys : List β} (hE : d.E = []) (h : d.R e w b ok v xs) (h' : d'.R e' w b' ok' v' ys) (hne : e ≠ e') :
    d.R e w b (fun k => ok k ∧ some k ≠ v'.ownBlock) v xs := by
  obtain ⟨i1, o1⟩ := Kd.R_own h
  obtain ⟨i2, o2⟩ := Kd.R_own h'
  refine Kd.R_mono (Kd.R_tight2 hE h) (fun k hk => ⟨hk.2, fun he => ?_⟩)
  rcases own_type_ne o1 o2 hne with hn | hn
  · rw [hn] at hk; cases hk.1
  · exact hn (hk.1.symm.trans he)
/-- The document's globals behind block r; all of them lies in T. -/
def Rs (W : World) (r : Nat) (T : Nat → Prop) (xs : List Gl) : Prop := ∃ v u, W.heap[r]? = some (.cells #[v, u] 40 (0, 0)) ∧ T r ∧ k29.R 29 W 0 (fun k => T k ∧ k ≠ r) v (xs.map valOf) ∧ Kd.bool.R 4 W 0 (fun k => T k ∧ k ≠ r) u (xs.map Gl.mt)
section
variable {w w1 : World} {r : Nat} {T T2 U : Nat → Prop} {xs : List Gl}
theorem Rs.mono (h : Rs w r T xs) (hs : ∀ k, T k → T2 k) : Rs w r T2 xs := by
  obtain ⟨v, u, h1, h2, h3, h4⟩ := h
  exact ⟨v, u, h1, hs _ h2, Kd.R_mono h3 (fun k hk => ⟨hs k hk.1, hk.2⟩), Kd.R_mono h4 (fun k hk => ⟨hs k hk.1, hk.2⟩)⟩
theorem Rs.bound (h : Rs w r T xs) : Rs w r (fun k => T k ∧ k < w.heap.size) xs := by
  obtain ⟨v, u, h1, h2, h3, h4⟩ := h
  exact ⟨v, u, h1, ⟨h2, blk_lt h1⟩, Kd.R_mono (Kd.R_bound h3) (fun k hk => ⟨⟨hk.1.1, hk.2.2.1⟩, hk.1.2⟩), Kd.R_mono (Kd.R_bound h4) (fun k hk => ⟨⟨hk.1.1, hk.2.2.1⟩, hk.1.2⟩)⟩
theorem Rs.frame (h : Rs w r T xs) (hf : Fr w w1 U) (hd : ∀ k, T k → k < w.heap.size → ¬ U k) : Rs w1 r T xs := by
  obtain ⟨v, u, h1, h2, h3, h4⟩ := h
  exact ⟨v, u, hf.block h1 (hd _ h2 (blk_lt h1)), h2, Kd.R_step h3 (fun k hk hlt => hf.k.2 k hlt (hd k hk.1 hlt)), Kd.R_step h4 (fun k hk hlt => hf.k.2 k hlt (hd k hk.1 hlt))⟩
theorem Rs.below (h : Rs w r T xs) (hb : Below w.heap.size w w1) : Rs w1 r T xs := h.frame (Fr.of_below hb (fun _ => False)) (fun _ _ _ h => h)
end
theorem vmay_calls (x y : Int) (w : World) : Calls Try.prog 43 #[.agg #[.int .i64 x, .int .i64 y]] w fun e w' => e = .returned (.bool (mayV x y)) ∧ Below w.heap.size w w' :=
  (pelorusref4_ValMay.calls _ _ _ w (valMay_eq x y)).mono fun _ _ hh => ⟨hh.1, by first | exact hh.2 | exact hh.2.below⟩
theorem vmay_calls_v {x y : Int} {b : Bool} (hb : mayV x y = b) (w : World) : Calls Try.prog 43 #[.agg #[.int .i64 x, .int .i64 y]] w fun e w' => e = .returned (.bool b) ∧ Below w.heap.size w w' := by
  subst hb
  exact vmay_calls x y w
theorem C_bool {W : World} {gl : Nat} {m : Bool} (h : W.heap[gl]? = some (.cells #[.bool m] 4 (0, 0))) : Kd.bool.C W (some ⟨gl, 0, none⟩) 1 [m] := by
  refine ⟨rfl, by simp, fun _ => ⟨_, rfl, fun j p hp => ?_⟩⟩
  cases j with
  | zero =>
    obtain rfl : m = p := by simpa using hp
    refine ⟨[.bool m], rfl, rfl, fun i u hu => ?_⟩
    rw [add_plain, blk_cell h]
    simpa using hu
  | succ j => simp at hp
/-- A row's element, where the row begins at its block's head. -/
theorem at_V {w : World} {S : Nat → Prop} {A : Option Addr} {n c : Nat} {xs : List Gl} (h : k29.R 29 w 0 S (.slice A n c) (xs.map valOf)) (i : Int) (h0 : 0 ≤ i) (h1 : i < xs.length) : ∃ ga, A = some ⟨ga, 0, none⟩ ∧ S ga ∧ w.cell? ⟨ga, i.toNat * 2, none⟩ = some (.int .i64 (rdG xs i).ty) ∧ w.cell? ⟨ga, i.toNat * 2 + 1, none⟩ = some (.int .i64 (rdG xs i).bits) := by
  obtain ⟨hn, _, hC⟩ := Kd.R_reads' h
  have hl : (xs.map valOf).length = xs.length := by simp
  obtain ⟨ad, rfl, e1, e2⟩ := at_T29 hC i h0 (by omega)
  obtain ⟨ga, rfl⟩ := Kd.R_head h
  rw [add_plain] at e1 e2
  have hi : i.toNat < xs.length := by omega
  have hr : rd_T29 (xs.map valOf) i = valOf (rdG xs i) := by simp [rd_T29, rdG, List.getD_eq_getElem?_getD, hi]
  rw [hr] at e1 e2
  exact ⟨ga, rfl, h.1 ga (by simp [Value.ownBlock]), e1, e2⟩
theorem at_M {w : World} {S : Nat → Prop} {A : Option Addr} {n c : Nat} {xs : List Gl} (h : Kd.bool.R 4 w 0 S (.slice A n c) (xs.map Gl.mt)) (i : Int) (h0 : 0 ≤ i) (h1 : i < xs.length) : ∃ gm, A = some ⟨gm, 0, none⟩ ∧ w.cell? ⟨gm, i.toNat, none⟩ = some (.bool (rdG xs i).mt) := by
  obtain ⟨hn, _, hC⟩ := Kd.R_reads' h
  have hl : (xs.map Gl.mt).length = xs.length := by simp
  obtain ⟨ad, c', e, _, hK, hc⟩ := Kd.C_get hC false i h0 (by omega)
  subst e
  obtain ⟨gm, rfl⟩ := Kd.R_head h
  have hi : i.toNat < xs.length := by omega
  have hr : (xs.map Gl.mt).getD i.toNat false = (rdG xs i).mt := by simp [rdG, List.getD_eq_getElem?_getD, hi]
  rw [hr] at hK
  obtain rfl : c' = [.bool (rdG xs i).mt] := hK
  have h2 := hc 0 _ rfl
  rw [add_plain] at h2
  exact ⟨gm, rfl, by have h3 : i.toNat * Kd.bool.sz + 0 = i.toNat := by show i.toNat * 1 + 0 = _; omega
                     rw [h3] at h2; exact h2⟩
theorem rnew (w : World) {r : Nat} {w1 : World} (hA : w1.heap[r]? = some (.cells #[.slice none 0 0, .slice none 0 0] 40 (0, 0))) (hr : w.heap.size ≤ r) : Rs w1 r (fun k => w.heap.size ≤ k) [] := ⟨_, _, hA, hr, Kd.R_nil _ _ _ _ _, Kd.R_nil _ _ _ _ _⟩
set_option maxHeartbeats 1000000 in
theorem radd_may {w : World} {g : Nat} {S : Nat → Prop} {xs : List Gl} {x y : Int} {m : Bool} (h : Rs w g S xs) (hmay : mayV x y = false) :
    Calls Try.prog 29 #[.pointer (some ⟨g, 0, none⟩), .agg #[.int .i64 x, .int .i64 y], .bool m] w fun e w' => e = .returned (.int .i64 1000) ∧ Below w.heap.size w w' := by
  have C1 := Aside0.mk (fun W => vmay_calls_v (x := x) (y := y) hmay W)
  clear hmay
  have hu29 := Try.underlying29
  have hu37 := Try.underlying37
  have hu38 := Try.underlying38
  have hu40 := Try.underlying40
  have hm : xs.length ≤ 9223372036854775807 := by
    obtain ⟨v, u, hg, hS, hR, hU⟩ := h
    obtain ⟨A, c, rfl, _, hC⟩ := Kd.R_reads hR
    have := Kd.C_max hC
    simpa using this
  obtain ⟨v, u, hg, hS, hR, hU⟩ := h
  obtain ⟨A, c, hv⟩ := Kd.R_slice hR
  obtain ⟨B, cb, hu⟩ := Kd.R_slice hU
  rw [List.length_map] at hv hu
  subst hv
  subst hu
  have HG := Aside0.mk hg
  have HS := Aside0.mk hS
  have HR := Aside0.mk hR
  have HU := Aside0.mk hU
  clear hg hS hR hU
  go_enter Try.func29, Try.ntmps29
  go_wp2_with (first
    | ((with_reducible refine gate_dst (N := 4) rfl ?_); refine box_event ?hg (N := 4) ?hd (cs := #[.int .i64 x, .int .i64 y]) (t := 29) ?hr ?_; (case hd => rfl); (case hg => rfl); (case hr => first | (go_simp; done) | (go_simp; rfl)); intro gb hggb w1 hA hb; have GL := Aside0.mk (show w.heap.size ≤ gb by rw [hggb]; exact Nat.le_refl _); have HB := Aside0.mk hb; have BB := Aside0.mk hA; have HG1 := Aside0.mk (blk_below HG.out hb); have x0 : w1.cell? ⟨gb, 0, none⟩ = some (.int .i64 x) := blk_cell BB.out 0; have x1 : w1.cell? ⟨gb, 1, none⟩ = some (.int .i64 y) := blk_cell BB.out 1; clear hA hb hggb)
    | (go_at_call 43; (with_reducible refine (C1.out _).mono ?_); rintro e w2 ⟨rfl, hb⟩; have HB2 := Aside0.mk (below_step HB.out hb); have BB2 := Aside0.mk (blk_below BB.out hb); have HG2 := Aside0.mk (blk_below HG1.out hb); have y0 : w2.cell? ⟨gb, 0, none⟩ = some (.int .i64 x) := blk_cell BB2.out 0; have y1 : w2.cell? ⟨gb, 1, none⟩ = some (.int .i64 y) := blk_cell BB2.out 1; have y2 : w2.cell? ⟨g, 0, none⟩ = some (.slice A xs.length c) := blk_cell HG2.out 0; clear hb HB BB HG1 x0 x1))
  go_ret
  exact ⟨rfl, HB2.out⟩
set_option maxHeartbeats 1000000 in
theorem radd_full {w : World} {g : Nat} {S : Nat → Prop} {xs : List Gl} {x y : Int} {m : Bool} (h : Rs w g S xs) (hmay : mayV x y = true) (hl : decide ((xs.length : Int) ≥ 1024) = true) :
    Calls Try.prog 29 #[.pointer (some ⟨g, 0, none⟩), .agg #[.int .i64 x, .int .i64 y], .bool m] w fun e w' => e = .returned (.int .i64 1000) ∧ Below w.heap.size w w' := by
  have C1 := Aside0.mk (fun W => vmay_calls_v (x := x) (y := y) hmay W)
  clear hmay
  have hu29 := Try.underlying29
  have hu37 := Try.underlying37
  have hu38 := Try.underlying38
  have hu40 := Try.underlying40
  have hm : xs.length ≤ 9223372036854775807 := by
    obtain ⟨v, u, hg, hS, hR, hU⟩ := h
    obtain ⟨A, c, rfl, _, hC⟩ := Kd.R_reads hR
    have := Kd.C_max hC
    simpa using this
  obtain ⟨v, u, hg, hS, hR, hU⟩ := h
  obtain ⟨A, c, hv⟩ := Kd.R_slice hR
  obtain ⟨B, cb, hu⟩ := Kd.R_slice hU
  rw [List.length_map] at hv hu
  subst hv
  subst hu
  have HG := Aside0.mk hg
  have HS := Aside0.mk hS
  have HR := Aside0.mk hR
  have HU := Aside0.mk hU
  clear hg hS hR hU
  go_enter Try.func29, Try.ntmps29
  go_wp2_with (first
    | ((with_reducible refine gate_dst (N := 4) rfl ?_); refine box_event ?hg (N := 4) ?hd (cs := #[.int .i64 x, .int .i64 y]) (t := 29) ?hr ?_; (case hd => rfl); (case hg => rfl); (case hr => first | (go_simp; done) | (go_simp; rfl)); intro gb hggb w1 hA hb; have GL := Aside0.mk (show w.heap.size ≤ gb by rw [hggb]; exact Nat.le_refl _); have HB := Aside0.mk hb; have BB := Aside0.mk hA; have HG1 := Aside0.mk (blk_below HG.out hb); have x0 : w1.cell? ⟨gb, 0, none⟩ = some (.int .i64 x) := blk_cell BB.out 0; have x1 : w1.cell? ⟨gb, 1, none⟩ = some (.int .i64 y) := blk_cell BB.out 1; clear hA hb hggb)
    | (go_at_call 43; (with_reducible refine (C1.out _).mono ?_); rintro e w2 ⟨rfl, hb⟩; have HB2 := Aside0.mk (below_step HB.out hb); have BB2 := Aside0.mk (blk_below BB.out hb); have HG2 := Aside0.mk (blk_below HG1.out hb); have y0 : w2.cell? ⟨gb, 0, none⟩ = some (.int .i64 x) := blk_cell BB2.out 0; have y1 : w2.cell? ⟨gb, 1, none⟩ = some (.int .i64 y) := blk_cell BB2.out 1; have y2 : w2.cell? ⟨g, 0, none⟩ = some (.slice A xs.length c) := blk_cell HG2.out 0; clear hb HB BB HG1 x0 x1))
  go_ret
  exact ⟨rfl, HB2.out⟩
set_option maxHeartbeats 4000000 in
theorem radd_fits {w : World} {g : Nat} {S : Nat → Prop} {xs : List Gl} {x y : Int} {m : Bool} (h : Rs w g S xs) (hmay : mayV x y = true) (hlt : xs.length < 1024) :
    Calls Try.prog 29 #[.pointer (some ⟨g, 0, none⟩), .agg #[.int .i64 x, .int .i64 y], .bool m] w fun e w' => e = .returned (.int .i64 0) ∧ Rs w' g (fun k => S k ∨ w.heap.size ≤ k) (xs ++ [⟨x, y, m⟩]) ∧ Fr w w' S := by
  have hl : decide ((xs.length : Int) ≥ 1024) = false := by simp; omega
  have HL := Aside0.mk hlt
  clear hlt
  have C1 := Aside0.mk (fun W => vmay_calls_v (x := x) (y := y) hmay W)
  clear hmay
  have hu29 := Try.underlying29
  have hu37 := Try.underlying37
  have hu38 := Try.underlying38
  have hu40 := Try.underlying40
  have hm : xs.length ≤ 9223372036854775807 := by
    obtain ⟨v, u, hg, hS, hR, hU⟩ := h
    obtain ⟨A, c, rfl, _, hC⟩ := Kd.R_reads hR
    have := Kd.C_max hC
    simpa using this
  obtain ⟨v, u, hg, hS, hR, hU⟩ := h
  obtain ⟨A, c, hv⟩ := Kd.R_slice hR
  obtain ⟨B, cb, hu⟩ := Kd.R_slice hU
  rw [List.length_map] at hv hu
  subst hv
  subst hu
  have HG := Aside0.mk hg
  have HS := Aside0.mk hS
  have HR := Aside0.mk hR
  have HU := Aside0.mk hU
  clear hg hS hR hU
  go_enter Try.func29, Try.ntmps29
  go_wp2_with (first
    | ((with_reducible refine gate_dst (N := 4) rfl ?_); refine box_event ?hg (N := 4) ?hd (cs := #[.int .i64 x, .int .i64 y]) (t := 29) ?hr ?_; (case hd => rfl); (case hg => rfl); (case hr => first | (go_simp; done) | (go_simp; rfl)); intro gb hggb w1 hA hb; have GL := Aside0.mk (show w.heap.size ≤ gb by rw [hggb]; exact Nat.le_refl _); have HB := Aside0.mk hb; have BB := Aside0.mk hA; have HG1 := Aside0.mk (blk_below HG.out hb); have x0 : w1.cell? ⟨gb, 0, none⟩ = some (.int .i64 x) := blk_cell BB.out 0; have x1 : w1.cell? ⟨gb, 1, none⟩ = some (.int .i64 y) := blk_cell BB.out 1; clear hA hb hggb)
    | (go_at_call 43; (with_reducible refine (C1.out _).mono ?_); rintro e w2 ⟨rfl, hb⟩; have HB2 := Aside0.mk (below_step HB.out hb); have BB2 := Aside0.mk (blk_below BB.out hb); have HG2 := Aside0.mk (blk_below HG1.out hb); have y0 : w2.cell? ⟨gb, 0, none⟩ = some (.int .i64 x) := blk_cell BB2.out 0; have y1 : w2.cell? ⟨gb, 1, none⟩ = some (.int .i64 y) := blk_cell BB2.out 1; have y2 : w2.cell? ⟨g, 0, none⟩ = some (.slice A xs.length c) := blk_cell HG2.out 0; clear hb HB BB HG1 x0 x1))
  refine start_ (n := 11) (S := fun w' => w'.cell? ⟨g, 0, none⟩ = some (.slice A xs.length c) ∧ w'.cell? ⟨gb, 0, none⟩ = some (.int .i64 x) ∧ w'.cell? ⟨gb, 1, none⟩ = some (.int .i64 y)) (ds := [10]) #[false, false, false, false, false, false, false, false, false, false, false] (by kernel_rfl) rfl rfl ⟨y2, y0, y1⟩ (fun hHeld => ?_)
  refine pure_ (i := 0) (N := some 18) (v := ?_) (a' := ?_) #[true, false, false, false, false, false, false, false, false, false, false] rfl rfl (by kernel_rfl) (fun _ _ _ h => h) (Or.inl ⟨by rfl, ?_⟩) ?_ ?_
  rotate_left
  · intro w'
    go_simp
    with_reducible rfl
  rotate_left
  · simp only [Act.put, List.setIfInBounds_toArray, List.set_cons_zero, List.set_cons_succ, i64_w, i32_w]
    rfl
  refine pure_ (i := 1) (N := some 19) (v := ?_) (a' := ?_) #[true, true, false, false, false, false, false, false, false, false, false] rfl rfl (by kernel_rfl) (fun _ _ _ h => h) (Or.inl ⟨by rfl, ?_⟩) ?_ ?_
  rotate_left
  · intro w'
    go_simp
    with_reducible rfl
  rotate_left
  · simp only [Act.put, List.setIfInBounds_toArray, List.set_cons_zero, List.set_cons_succ, i64_w, i32_w]
    rfl
  refine pure_ (i := 2) (N := some 20) (v := ?_) (a' := ?_) #[true, true, true, false, false, false, false, false, false, false, false] rfl rfl (by kernel_rfl) (fun _ _ _ h => h) (Or.inl ⟨by rfl, ?_⟩) ?_ ?_
  rotate_left
  · intro w'
    go_simp
    with_reducible rfl
  rotate_left
  · simp only [Act.put, List.setIfInBounds_toArray, List.set_cons_zero, List.set_cons_succ, i64_w, i32_w]
    rfl
  refine pure_ (i := 3) (N := some 21) (v := ?_) (a' := ?_) #[true, true, true, true, false, false, false, false, false, false, false] rfl rfl (by kernel_rfl) (fun _ _ _ h => h) (Or.inl ⟨by rfl, ?_⟩) ?_ ?_
  rotate_left
  · intro w'
    go_simp
    with_reducible rfl
  rotate_left
  · simp only [Act.put, List.setIfInBounds_toArray, List.set_cons_zero, List.set_cons_succ, i64_w, i32_w]
    rfl
  refine take_ (i := 4) (N := some 22) (v := ?_) (a' := ?_) #[true, true, true, true, true, false, false, false, false, false, false] rfl rfl (by kernel_rfl) (fun _ _ _ h => h) (Or.inl ⟨by rfl, ?_⟩) hHeld ?_ ?_
  rotate_left
  · rintro w' ⟨s0, s1, s2⟩
    go_simp
    with_reducible rfl
  rotate_left
  · simp only [Act.put, List.setIfInBounds_toArray, List.set_cons_zero, List.set_cons_succ, i64_w, i32_w]
    rfl
  refine take_ (i := 5) (N := some 23) (v := ?_) (a' := ?_) #[true, true, true, true, true, true, false, false, false, false, false] rfl rfl (by kernel_rfl) (fun _ _ _ h => h) (Or.inl ⟨by rfl, ?_⟩) hHeld ?_ ?_
  rotate_left
  · rintro w' ⟨s0, s1, s2⟩
    go_simp
    with_reducible rfl
  rotate_left
  · simp only [Act.put, List.setIfInBounds_toArray, List.set_cons_zero, List.set_cons_succ, i64_w, i32_w]
    rfl
  refine one_ (i := 6) (N := some 24) #[true, true, true, true, true, true, true, false, false, false, false] rfl rfl (by kernel_rfl) (by decide) (fun K hK => ?_)
  refine lit_step ?hw (N := 24) ?hd (cs := #[.int .i64 x, .int .i64 y]) (t := 29) (n := 1) ?hr ?_
  case hw => rfl
  case hd => rfl
  case hr => first | (go_simp; done) | (go_simp; rfl)
  intro gl hgl w3 hA hb
  have BL := Aside0.mk hA
  have HB3 : Aside0 (Below w2.heap.size w2 w3) := ⟨below_step (below_drew (Below.refl _ _)) hb⟩
  clear hA hb hgl
  refine hK.out _ _ ⟨pw_cell_below HB3.out y2, pw_cell_below HB3.out y0, pw_cell_below HB3.out y1⟩ (fun hHeld => ?_)
  clear hK K
  refine norm_ (a' := ?_) ?_ ?_
  rotate_left
  · show Act.put _ (some 24) _ = _
    simp only [Act.put, List.setIfInBounds_toArray, List.set_cons_zero, List.set_cons_succ, i64_w, i32_w]
    rfl
  refine one_ (i := 7) (N := some 25) #[true, true, true, true, true, true, true, true, false, false, false] rfl rfl (by kernel_rfl) (by decide) (fun K hK => ?_)
  refine Kd.R_append_rows_step k29 (w0 := w3) (W := w3) 0 ?hw (.tmp 22) (.tmp 24) 37 29 (.agg #[.int .i64 0, .int .i64 0]) 16 ?ho hu37 (by kernel_rfl) rfl (by decide) (by decide) (.slice A xs.length c) (xs.map valOf) [(⟨x, y⟩ : S29)] (some ⟨gl, 0, none⟩) 1 1 (fun k => (S k ∨ w.heap.size ≤ k) ∧ k ≠ g) (fun _ => False) ?h1 ?h2 (Kd.R_mono (Kd.R_below (Kd.R_below HR.out HB2.out) HB3.out) (fun k hk => ⟨.inl hk.1, hk.2⟩)) (C_val BL.out) (fun z cs hk => by rw [k29_open hk]; exact k29_mkM _ _ _ _) (fun _ hk => hk.elim) ?h3 (Below.refl _ _) (Nat.zero_le _) (by have := HL.out; simp; omega) ?_
  case hw => rfl
  case ho => rfl
  case h1 => rfl
  case h2 => rfl
  case h3 => exact fun k hk => ⟨.inr (Nat.le_trans (Nat.le_trans HB2.out.size HB3.out.size) hk), fun e => by have := blk_lt HG.out; have := HB2.out.size; have := HB3.out.size; omega⟩
  intro v4 w4 hR hb hgr hat
  obtain ⟨A4, c4, hv4⟩ := Kd.R_slice hR
  rw [show (xs.map valOf ++ [(⟨x, y⟩ : S29)]).length = xs.length + 1 by simp] at hv4
  subst hv4
  have R4 := Aside0.mk hR
  have hne : Aside0 (some g ≠ (Value.slice A xs.length c).ownBlock) := ⟨fun e => (HR.out.1 g e.symm).2 rfl⟩
  have hnb : Aside0 (some gb ≠ (Value.slice A xs.length c).ownBlock) := ⟨fun e => by have := Kd.R_lt HR.out gb e.symm; have := GL.out; omega⟩
  have HG4 := Aside0.mk (blk_grown (blk_below HG2.out HB3.out) hgr hne.out)
  have BB4 := Aside0.mk (blk_grown (blk_below BB2.out HB3.out) hgr hnb.out)
  have U4 := Aside0.mk (Kd.R_grown (Kd.R_below (Kd.R_below (R_other rfl HU.out HR.out (by decide)) HB2.out) HB3.out) hgr (fun k hk => hk.2))
  have FR4 : Aside0 (Fr w w4 S) := ⟨(Fr.of_below (below_step HB2.out HB3.out) S).then_ (Fr.grown (S := fun k => some k = (Value.slice A xs.length c).ownBlock) hgr (fun k hk => hk.symm)) (fun k hk => .inl (HR.out.1 k hk.symm).1)⟩
  clear hR hb hgr hat
  refine hK.out _ _ ⟨blk_cell HG4.out 0, blk_cell BB4.out 0, blk_cell BB4.out 1⟩ (fun hHeld => ?_)
  clear hK K
  refine norm_ (a' := ?_) ?_ ?_
  rotate_left
  · show Act.put _ (some 25) _ = _
    simp only [Act.put, List.setIfInBounds_toArray, List.set_cons_zero, List.set_cons_succ, i64_w, i32_w]
    rfl
  refine pure_ (i := 8) (N := some 26) (v := ?_) (a' := ?_) #[true, true, true, true, true, true, true, true, true, false, false] rfl rfl (by kernel_rfl) (fun _ _ _ h => h) (Or.inl ⟨by rfl, ?_⟩) ?_ ?_
  rotate_left
  · intro w'
    go_simp
    with_reducible rfl
  rotate_left
  · simp only [Act.put, List.setIfInBounds_toArray, List.set_cons_zero, List.set_cons_succ, i64_w, i32_w]
    rfl
  refine pure_ (i := 9) (N := some 27) (v := ?_) (a' := ?_) #[true, true, true, true, true, true, true, true, true, true, false] rfl rfl (by kernel_rfl) (fun _ _ _ h => h) (Or.inl ⟨by rfl, ?_⟩) ?_ ?_
  rotate_left
  · intro w'
    go_simp
    with_reducible rfl
  rotate_left
  · simp only [Act.put, List.setIfInBounds_toArray, List.set_cons_zero, List.set_cons_succ, i64_w, i32_w]
    rfl
  refine last_ (i := 10) (N := none) #[true, true, true, true, true, true, true, true, true, true, true] rfl rfl (by kernel_rfl) (by decide) (fun K hK => ?_)
  refine storeCell_step (g := g) (j := 0) (x := .slice A4 (xs.length + 1) c4) (by rfl) rfl rfl rfl rfl HG4.out (by simp) (by kernel_rfl) rfl ?_
  intro w5 hA hb ho hs
  have HG5 : Aside0 (w5.heap[g]? = some (.cells #[.slice A4 (xs.length + 1) c4, .slice B xs.length cb] 40 (0, 0))) := ⟨hA⟩
  have R5 := Aside0.mk (Kd.R_step R4.out (fun k hk _ => ho k hk.2))
  have U5 := Aside0.mk (Kd.R_step U4.out (fun k hk _ => ho k hk.1.2))
  have F5 : Aside0 (Fr w w5 S) := ⟨FR4.out.then_ (Fr.stored (S := fun k => k = g) hb ho hs rfl) (fun k hk => .inl (hk ▸ HS.out))⟩
  have y3 : w5.cell? ⟨g, 1, none⟩ = some (.slice B xs.length cb) := blk_cell HG5.out 1
  clear hA hb ho hs R4 U4 HG4 BB4 FR4 y0 y1 y2
  refine hK.out _ _ ?_
  clear hK K
  refine done_ (by kernel_rfl) ?_

  go_wp2_with (first
    | ((with_reducible refine gate_dst (N := 34) rfl ?_); refine lit_event ?hg (N := 34) ?hd (cs := #[.bool m]) (t := 4) (n := 1) ?hr ?_; (case hd => rfl); (case hg => rfl); (case hr => first | (go_simp; done) | (go_simp; rfl)); intro gm hggm w6 hA hb; have BM := Aside0.mk hA; have HB6 := Aside0.mk hb; have HG6 := Aside0.mk (blk_below HG5.out hb); clear hA hb hggm y3)
    | ((with_reducible refine gate_dst (N := 35) rfl ?_); refine Kd.R_append_rows (w0 := w6) Kd.bool 0 rfl (.tmp 32) (.tmp 34) 38 4 (.bool false) 1 rfl hu38 (by kernel_rfl) rfl (by decide) (by decide) (.slice B xs.length cb) (xs.map Gl.mt) [m] (some ⟨gm, 0, none⟩) 1 1 (fun k => (S k ∨ w.heap.size ≤ k) ∧ k ≠ g) (fun _ => False) rfl rfl (Kd.R_mono (Kd.R_below U5.out HB6.out) (fun k hk => ⟨.inl hk.1.1, hk.1.2⟩)) (C_bool BM.out) (fun z cs hk => hk) (fun _ hk => hk.elim) (fun k hk => ⟨.inr (Nat.le_trans F5.out.size (Nat.le_trans HB6.out.size hk)), fun e => by have := blk_lt HG6.out; omega⟩) (Below.refl _ _) (Nat.zero_le _) (by have := HL.out; simp; omega) ?_; intro v7 w7 hR hb hgr hat; obtain ⟨B7, c7, hv7⟩ := Kd.R_slice hR; rw [show (xs.map Gl.mt ++ [m]).length = xs.length + 1 by simp] at hv7; subst hv7; have U7 := Aside0.mk hR; have hne : Aside0 (some g ≠ (Value.slice B xs.length cb).ownBlock) := ⟨fun e => (U5.out.1 g e.symm).1.2 rfl⟩; have HG7 := Aside0.mk (blk_grown HG6.out hgr hne.out); have R7 := Aside0.mk (Kd.R_grown (R_other rfl (Kd.R_below R5.out HB6.out) (Kd.R_below U5.out HB6.out) (by decide)) hgr (fun k hk => hk.2)); have F7 : Aside0 (Fr w w7 S) := ⟨(F5.out.below HB6.out).then_ (Fr.grown (S := fun k => some k = (Value.slice B xs.length cb).ownBlock) hgr (fun k hk => hk.symm)) (fun k hk => .inl (U5.out.1 k hk.symm).1.1)⟩; clear hR hb hgr hat)
    | ((with_reducible refine gate_store (p := 37) rfl ?_); refine storeCell_event (g := g) (j := 1) (x := .slice B7 (xs.length + 1) c7) rfl rfl rfl rfl rfl HG7.out (by simp) (by kernel_rfl) rfl ?_; intro w8 hA hb ho hs; have GZ := Aside0.mk (show Rs w8 g (fun k => S k ∨ w.heap.size ≤ k) (xs ++ [⟨x, y, m⟩]) from ⟨_, _, hA, .inl HS.out, by rw [List.map_append]; exact Kd.R_step (Kd.R_mono R7.out (fun k hk => hk.1)) (fun k hk _ => ho k hk.2), by rw [List.map_append]; exact Kd.R_step U7.out (fun k hk _ => ho k hk.2)⟩); have FZ : Aside0 (Fr w w8 S) := ⟨F7.out.then_ (Fr.stored (S := fun k => k = g) hb ho hs rfl) (fun k hk => .inl (hk ▸ HS.out))⟩; clear hA hb ho hs))
  go_ret
  exact ⟨rfl, GZ.out, FZ.out⟩
end Go.Proofs.Ytddfoogbakiojaa.EGlob
