/-
  awake of chapter 17 answers true.
-/
import Derived.Test.YtmofdpkddimmlaaEFty4
import Derived.Test.YtmofdpkddimmlaaFx1
import Derived.Test.YtmofdpkddimmlaaFx3
namespace Go.Proofs.Ytmofdpkddimmlaa.EFty
open Go Go.RowKit Go.Proofs.Ytmofdpkddimmlaa.F Go.Proofs.YtmofdpkddimmlaaW.Hand Go.Proofs.YtmofdpkddimmlaaW.PrintWords Go.Proofs.YtmofdpkddimmlaaW.PrintLast Go.Proofs.YtmofdpkddimmlaaW.PrintMore
set_option linter.unusedVariables false
set_option linter.unusedSimpArgs false
theorem C_row1 {α : Type} {d : Kd α} {W : World} {g : Nat} {x : α} {cs : Array Value} {t : TypeId} (h : W.heap[g]? = some (.cells cs t (0, 0))) (hx : d.K W x cs.toList) (hl : cs.toList.length = d.sz) (hs : 0 < d.sz) : d.C W (some ⟨g, 0, none⟩) 1 [x] := by
  refine ⟨rfl, by simp, fun _ => ⟨_, rfl, fun j p hp => ?_⟩⟩
  match j with
  | 0 =>
    obtain rfl : x = p := by simpa using hp
    refine ⟨cs.toList, hl, hx, fun i u hu => ?_⟩
    rw [add_plain, blk_cell h]
    simpa using hu
  | j + 1 => simp at hp
theorem C_row2 {α : Type} {d : Kd α} {W : World} {g : Nat} {x y : α} {cs : Array Value} {cx cy : List Value} {t : TypeId} (h : W.heap[g]? = some (.cells cs t (0, 0))) (he : cs.toList = cx ++ cy) (hx : d.K W x cx) (hy : d.K W y cy) (hlx : cx.length = d.sz) (hly : cy.length = d.sz) : d.C W (some ⟨g, 0, none⟩) 2 [x, y] := by
  have he2 : ∀ i : Nat, cs[i]? = (cx ++ cy)[i]? := fun i => by rw [← he]; simp
  refine ⟨rfl, by simp, fun _ => ⟨_, rfl, fun j p hp => ?_⟩⟩
  match j with
  | 0 =>
    obtain rfl : x = p := by simpa using hp
    refine ⟨cx, hlx, hx, fun i u hu => ?_⟩
    rw [add_plain, blk_cell h, he2]
    rw [List.getElem?_append_left]
    · simpa using hu
    · have := (List.getElem?_eq_some_iff.1 hu).1
      omega
  | 1 =>
    obtain rfl : y = p := by simpa using hp
    refine ⟨cy, hly, hy, fun i u hu => ?_⟩
    rw [add_plain, blk_cell h, he2]
    rw [List.getElem?_append_right (by omega)]
    rw [← hu]
    congr 1
    omega
  | j + 2 => simp at hp
def aTs : List S36 := [⟨[], []⟩, ⟨[127], []⟩]
def aImps : List S90 := [⟨⟨#[]⟩, ⟨#[]⟩, 0, 1, false, ⟨0, 0⟩⟩, ⟨⟨#[]⟩, ⟨#[]⟩, 3, 125, false, ⟨0, 0⟩⟩]
def aGs : List S93 := [⟨126, true, []⟩]
def AW (W : World) (l14 l16 l19 l20 l22 : Nat) : Prop := W.heap[l14]? = some (.cells #[.int .i64 127] 3 (0, 0)) ∧ W.heap[l16]? = some (.cells #[.slice none 0 0, .slice none 0 0, .slice (some ⟨l14, 0, none⟩) 1 1, .slice none 0 0] 36 (0, 0)) ∧ W.heap[l19]? = some (.cells #[.string ⟨#[]⟩, .string ⟨#[]⟩, .int .i64 0, .int .i64 1, .bool false, .int .i64 0, .int .i64 0, .string ⟨#[]⟩, .string ⟨#[]⟩, .int .i64 3, .int .i64 125, .bool false, .int .i64 0, .int .i64 0] 90 (0, 0)) ∧ W.heap[l20]? = some (.cells #[.int .i64 0] 3 (0, 0)) ∧ W.heap[l22]? = some (.cells #[.int .i64 126, .bool true, .slice none 0 0] 93 (0, 0))
section
variable {W : World} {l14 l16 l19 l20 l22 : Nat}
theorem AW.below (h : AW W l14 l16 l19 l20 l22) {W1 : World} (hb : Below W.heap.size W W1) : AW W1 l14 l16 l19 l20 l22 := ⟨blk_below h.1 hb, blk_below h.2.1 hb, blk_below h.2.2.1 hb, blk_below h.2.2.2.1 hb, blk_below h.2.2.2.2 hb⟩
theorem AW.ts (h : AW W l14 l16 l19 l20 l22) : k36.C W (some ⟨l16, 0, none⟩) 2 aTs := C_row2 (cx := [.slice none 0 0, .slice none 0 0]) (cy := [.slice (some ⟨l14, 0, none⟩) 1 1, .slice none 0 0]) h.2.1 rfl
  (k36_mk W ⟨[], []⟩ (Nat.le_refl _) (Kd.C_nil _ _) (Nat.le_refl _) (Kd.C_nil _ _)) (k36_mk W ⟨[127], []⟩ (Nat.le_refl _) (C_row1 (d := Kd.int .i64) h.1 rfl rfl (by decide)) (Nat.le_refl _) (Kd.C_nil _ _)) rfl rfl
theorem AW.imps (h : AW W l14 l16 l19 l20 l22) : k90.C W (some ⟨l19, 0, none⟩) 2 aImps := C_row2 (cx := [.string ⟨#[]⟩, .string ⟨#[]⟩, .int .i64 0, .int .i64 1, .bool false, .int .i64 0, .int .i64 0]) (cy := [.string ⟨#[]⟩, .string ⟨#[]⟩, .int .i64 3, .int .i64 125, .bool false, .int .i64 0, .int .i64 0]) h.2.2.1 rfl (k90_mk _ _) (k90_mk _ _) rfl rfl
theorem AW.fs (h : AW W l14 l16 l19 l20 l22) : (Kd.int .i64).C W (some ⟨l20, 0, none⟩) 1 [0] := C_row1 h.2.2.2.1 rfl rfl (by decide)
theorem AW.gs (h : AW W l14 l16 l19 l20 l22) : k93.C W (some ⟨l22, 0, none⟩) 1 aGs := C_row1 h.2.2.2.2 (k93_mk W ⟨126, true, []⟩ (Nat.le_refl _) (Kd.C_nil _ _)) rfl (by decide)
theorem aTs_sz (i : Int) : (rd_T36 aTs i).f0.length * 8 ≤ 140737488351232 ∧ (rd_T36 aTs i).f1.length * 8 ≤ 140737488351232 := by
  unfold rd_T36 aTs
  rcases i.toNat with _ | _ | j <;> simp [z36]
theorem aw_func0 (h : AW W l14 l16 l19 l20 l22) : Calls Try.prog 26 #[.agg #[.slice (some ⟨l16, 0, none⟩) 2 2, .slice (some ⟨l19, 0, none⟩) 2 2, .slice (some ⟨l20, 0, none⟩) 1 1, .slice none 0 0, .slice none 0 0, .slice (some ⟨l22, 0, none⟩) 1 1, .slice none 0 0, .int .i64 0, .slice none 0 0, .slice none 0 0, .slice none 0 0], .int .i64 0] W fun e w' => ∃ Av cv Bv dv, e = .returned (.tuple #[.agg #[.slice Av 1 cv, .slice Bv 0 dv], .int .i64 0]) ∧ 1 ≤ cv ∧ (Kd.int .i64).C w' Av 1 [127] ∧ (Kd.int .i64).C w' Bv 0 [] ∧ Below W.heap.size W w' := by
  have hx := func_calls W aImps aTs [0] 0 (some ⟨l16, 0, none⟩) (some ⟨l19, 0, none⟩) (some ⟨l20, 0, none⟩) none none (some ⟨l22, 0, none⟩) none none none none 0 0 1 0 0 0 0 2 2 1 0 0 1 0 0 0 0 0 (by decide) (by decide) (by decide) aTs_sz h.ts h.imps h.fs
  rw [show funcOf aImps aTs [0] 0 = (([127], []), 0) by decide +kernel] at hx
  refine hx.mono ?_
  rintro e w' ⟨v0, v1, rfl, h0, h1, -, hb⟩
  obtain ⟨A, c, rfl, hl, hc⟩ := Kd.R_reads h0
  obtain ⟨B, d, rfl, hl2, hc2⟩ := Kd.R_reads h1
  exact ⟨A, c, B, d, rfl, hl, hc, hc2, hb⟩
theorem aw_func2 (h : AW W l14 l16 l19 l20 l22) : Calls Try.prog 26 #[.agg #[.slice (some ⟨l16, 0, none⟩) 2 2, .slice (some ⟨l19, 0, none⟩) 2 2, .slice (some ⟨l20, 0, none⟩) 1 1, .slice none 0 0, .slice none 0 0, .slice (some ⟨l22, 0, none⟩) 1 1, .slice none 0 0, .int .i64 0, .slice none 0 0, .slice none 0 0, .slice none 0 0], .int .i64 2] W fun e w' => ∃ Av cv Bv dv, e = .returned (.tuple #[.agg #[.slice Av 0 cv, .slice Bv 0 dv], .int .i64 1701]) ∧ Below W.heap.size W w' := by
  have hx := func_calls W aImps aTs [0] 2 (some ⟨l16, 0, none⟩) (some ⟨l19, 0, none⟩) (some ⟨l20, 0, none⟩) none none (some ⟨l22, 0, none⟩) none none none none 0 0 1 0 0 0 0 2 2 1 0 0 1 0 0 0 0 0 (by decide) (by decide) (by decide) aTs_sz h.ts h.imps h.fs
  rw [show funcOf aImps aTs [0] 2 = (([], []), 1701) by decide +kernel] at hx
  refine hx.mono ?_
  rintro e w' ⟨v0, v1, rfl, h0, h1, -, hb⟩
  obtain ⟨A, c, rfl⟩ := Kd.R_slice h0
  obtain ⟨B, d, rfl⟩ := Kd.R_slice h1
  exact ⟨A, c, B, d, rfl, hb⟩
theorem aw_glob (h : AW W l14 l16 l19 l20 l22) : Calls Try.prog 28 #[.agg #[.slice (some ⟨l16, 0, none⟩) 2 2, .slice (some ⟨l19, 0, none⟩) 2 2, .slice (some ⟨l20, 0, none⟩) 1 1, .slice none 0 0, .slice none 0 0, .slice (some ⟨l22, 0, none⟩) 1 1, .slice none 0 0, .int .i64 0, .slice none 0 0, .slice none 0 0, .slice none 0 0], .int .i64 1] W fun e w' => e = .returned (.tuple #[.int .i64 126, .bool true, .int .i64 0]) ∧ Below W.heap.size W w' := by
  have hx := global_calls W aImps aGs 1 (some ⟨l16, 0, none⟩) (some ⟨l19, 0, none⟩) (some ⟨l20, 0, none⟩) none none (some ⟨l22, 0, none⟩) none none none none 2 1 0 0 0 0 0 0 2 2 1 0 0 1 0 0 0 0 0 (by decide) (by decide) (by decide) h.imps h.gs
  rw [show globalOf aImps aGs 1 = (126, true, 0) by decide +kernel] at hx
  exact hx
theorem aw_counts (h : AW W l14 l16 l19 l20 l22) : Calls Try.prog 30 #[.agg #[.slice (some ⟨l16, 0, none⟩) 2 2, .slice (some ⟨l19, 0, none⟩) 2 2, .slice (some ⟨l20, 0, none⟩) 1 1, .slice none 0 0, .slice none 0 0, .slice (some ⟨l22, 0, none⟩) 1 1, .slice none 0 0, .int .i64 0, .slice none 0 0, .slice none 0 0, .slice none 0 0]] W fun e w' => e = .returned (.tuple #[.int .i64 2, .int .i64 0, .int .i64 0, .int .i64 2]) ∧ Below W.heap.size W w' := by
  have hx := counts_calls W aImps (some ⟨l16, 0, none⟩) (some ⟨l19, 0, none⟩) (some ⟨l20, 0, none⟩) none none (some ⟨l22, 0, none⟩) none none none none 2 1 0 0 1 0 0 0 0 2 2 1 0 0 1 0 0 0 0 0 (by decide) h.imps
  rw [show wrap64 ((cnt aImps 0 aImps.length : Int) + (1 : Nat)) = 2 by decide +kernel, show wrap64 ((cnt aImps 1 aImps.length : Int) + (0 : Nat)) = 0 by decide +kernel, show wrap64 ((cnt aImps 2 aImps.length : Int) + (0 : Nat)) = 0 by decide +kernel, show wrap64 ((cnt aImps 3 aImps.length : Int) + (1 : Nat)) = 2 by decide +kernel] at hx
  exact hx
end
set_option maxHeartbeats 8000000 in
set_option maxRecDepth 100000 in
theorem awake_calls (w : World) : Calls Try.prog 39 #[] w fun e w' => e = .returned (.bool true) ∧ Below w.heap.size w w' := by
  go_enter Try.func39, Try.ntmps39
  go_wp2_with (first
    | ((with_reducible refine gate_dst (N := 14) rfl ?_); refine lit_event ?hg (N := 14) ?hd (cs := #[.int .i64 127]) (t := 3) (n := 1) ?hr ?_; (case hd => rfl); (case hg => rfl); (case hr => first | (go_simp; done) | (go_simp; rfl)); intro l14 hgl14 w1 hA hb; have B14_1 := Aside0.mk hA; have HB1 := Aside0.mk hb; clear hA hb hgl14)
    | ((with_reducible refine gate_dst (N := 16) rfl ?_); refine lit_event ?hg (N := 16) ?hd (cs := #[.slice none 0 0, .slice none 0 0, .slice (some ⟨l14, 0, none⟩) 1 1, .slice none 0 0]) (t := 36) (n := 2) ?hr ?_; (case hd => rfl); (case hg => rfl); (case hr => first | (go_simp; done) | (go_simp; rfl)); intro l16 hgl16 w2 hA hb; have B16_2 := Aside0.mk hA; have B14_2 := Aside0.mk (blk_below B14_1.out hb); have HB2 := Aside0.mk (below_step HB1.out hb); clear hA hb hgl16; clear HB1 B14_1)
    | ((with_reducible refine gate_dst (N := 19) rfl ?_); refine lit_event ?hg (N := 19) ?hd (cs := #[.string ⟨#[]⟩, .string ⟨#[]⟩, .int .i64 0, .int .i64 1, .bool false, .int .i64 0, .int .i64 0, .string ⟨#[]⟩, .string ⟨#[]⟩, .int .i64 3, .int .i64 125, .bool false, .int .i64 0, .int .i64 0]) (t := 90) (n := 2) ?hr ?_; (case hd => rfl); (case hg => rfl); (case hr => first | (go_simp; done) | (go_simp; rfl)); intro l19 hgl19 w3 hA hb; have B19_3 := Aside0.mk hA; have B14_3 := Aside0.mk (blk_below B14_2.out hb); have B16_3 := Aside0.mk (blk_below B16_2.out hb); have HB3 := Aside0.mk (below_step HB2.out hb); clear hA hb hgl19; clear HB2 B14_2 B16_2)
    | ((with_reducible refine gate_dst (N := 20) rfl ?_); refine lit_event ?hg (N := 20) ?hd (cs := #[.int .i64 0]) (t := 3) (n := 1) ?hr ?_; (case hd => rfl); (case hg => rfl); (case hr => first | (go_simp; done) | (go_simp; rfl)); intro l20 hgl20 w4 hA hb; have B20_4 := Aside0.mk hA; have B14_4 := Aside0.mk (blk_below B14_3.out hb); have B16_4 := Aside0.mk (blk_below B16_3.out hb); have B19_4 := Aside0.mk (blk_below B19_3.out hb); have HB4 := Aside0.mk (below_step HB3.out hb); clear hA hb hgl20; clear HB3 B14_3 B16_3 B19_3)
    | ((with_reducible refine gate_dst (N := 22) rfl ?_); refine lit_event ?hg (N := 22) ?hd (cs := #[.int .i64 126, .bool true, .slice none 0 0]) (t := 93) (n := 1) ?hr ?_; (case hd => rfl); (case hg => rfl); (case hr => first | (go_simp; done) | (go_simp; rfl)); intro l22 hgl22 w5 hA hb; have B22_5 := Aside0.mk hA; have B14_5 := Aside0.mk (blk_below B14_4.out hb); have B16_5 := Aside0.mk (blk_below B16_4.out hb); have B19_5 := Aside0.mk (blk_below B19_4.out hb); have B20_5 := Aside0.mk (blk_below B20_4.out hb); have HB5 := Aside0.mk (below_step HB4.out hb); clear hA hb hgl22; clear HB4 B14_4 B16_4 B19_4 B20_4)
    | ((with_reducible refine gate_dst (N := 1) rfl ?_); refine box_event ?hg (N := 1) ?hd (cs := #[.slice none 0 0, .slice none 0 0, .slice none 0 0, .slice none 0 0, .slice none 0 0, .slice none 0 0, .slice none 0 0, .int .i64 0, .slice none 0 0, .slice none 0 0, .slice none 0 0]) (t := 69) ?hr ?_; (case hd => rfl); (case hg => rfl); (case hr => first | (go_simp; done) | (go_simp; rfl)); intro g hgg w6 hA hb; have n14 := Aside0.mk (show l14 ≠ g by rw [hgg]; exact Nat.ne_of_lt (blk_lt B14_5.out)); have n16 := Aside0.mk (show l16 ≠ g by rw [hgg]; exact Nat.ne_of_lt (blk_lt B16_5.out)); have n19 := Aside0.mk (show l19 ≠ g by rw [hgg]; exact Nat.ne_of_lt (blk_lt B19_5.out)); have n20 := Aside0.mk (show l20 ≠ g by rw [hgg]; exact Nat.ne_of_lt (blk_lt B20_5.out)); have n22 := Aside0.mk (show l22 ≠ g by rw [hgg]; exact Nat.ne_of_lt (blk_lt B22_5.out)); have B14_6 := Aside0.mk (blk_below B14_5.out hb); have B16_6 := Aside0.mk (blk_below B16_5.out hb); have B19_6 := Aside0.mk (blk_below B19_5.out hb); have B20_6 := Aside0.mk (blk_below B20_5.out hb); have B22_6 := Aside0.mk (blk_below B22_5.out hb); have HG := Aside0.mk (show w.heap.size ≤ g by rw [hgg]; exact HB5.out.size); have HB6 := Aside0.mk (below_step HB5.out hb); have BG := Aside0.mk hA; clear hA hb hgg HB5 B14_5 B16_5 B19_5 B20_5 B22_5)
    | ((with_reducible refine gate_store (p := 1) rfl ?_); refine storeRow_event (g := g) rfl rfl rfl (cs := #[.slice (some ⟨l16, 0, none⟩) 2 2, .slice (some ⟨l19, 0, none⟩) 2 2, .slice (some ⟨l20, 0, none⟩) 1 1, .slice none 0 0, .slice none 0 0, .slice (some ⟨l22, 0, none⟩) 1 1, .slice none 0 0, .int .i64 0, .slice none 0 0, .slice none 0 0, .slice none 0 0]) rfl rfl BG.out (by kernel_rfl) rfl (by simp [Value.oneCell']) ?_; intro w7 hA hb ho hs; have AW7 := Aside0.mk (show AW w7 l14 l16 l19 l20 l22 from ⟨(ho l14 n14.out).trans B14_6.out, (ho l16 n16.out).trans B16_6.out, (ho l19 n19.out).trans B19_6.out, (ho l20 n20.out).trans B20_6.out, (ho l22 n22.out).trans B22_6.out⟩); have HB7 := Aside0.mk (hb _ _ HG.out HB6.out); have BG7 := Aside0.mk hA; have hy : Below w7.heap.size w7 w7 := Below.refl _ _; have x_0 : ∀ W, Below w7.heap.size w7 W → W.cell? ⟨g, 0, none⟩ = some (.slice (some ⟨l16, 0, none⟩) 2 2) := fun W h => pw_cell_below h (blk_cell BG7.out 0); have x_1 : ∀ W, Below w7.heap.size w7 W → W.cell? ⟨g, 1, none⟩ = some (.slice (some ⟨l19, 0, none⟩) 2 2) := fun W h => pw_cell_below h (blk_cell BG7.out 1); have x_2 : ∀ W, Below w7.heap.size w7 W → W.cell? ⟨g, 2, none⟩ = some (.slice (some ⟨l20, 0, none⟩) 1 1) := fun W h => pw_cell_below h (blk_cell BG7.out 2); have x_3 : ∀ W, Below w7.heap.size w7 W → W.cell? ⟨g, 3, none⟩ = some (.slice none 0 0) := fun W h => pw_cell_below h (blk_cell BG7.out 3); have x_4 : ∀ W, Below w7.heap.size w7 W → W.cell? ⟨g, 4, none⟩ = some (.slice none 0 0) := fun W h => pw_cell_below h (blk_cell BG7.out 4); have x_5 : ∀ W, Below w7.heap.size w7 W → W.cell? ⟨g, 5, none⟩ = some (.slice (some ⟨l22, 0, none⟩) 1 1) := fun W h => pw_cell_below h (blk_cell BG7.out 5); have x_6 : ∀ W, Below w7.heap.size w7 W → W.cell? ⟨g, 6, none⟩ = some (.slice none 0 0) := fun W h => pw_cell_below h (blk_cell BG7.out 6); have x_7 : ∀ W, Below w7.heap.size w7 W → W.cell? ⟨g, 7, none⟩ = some (.int .i64 0) := fun W h => pw_cell_below h (blk_cell BG7.out 7); have x_8 : ∀ W, Below w7.heap.size w7 W → W.cell? ⟨g, 8, none⟩ = some (.slice none 0 0) := fun W h => pw_cell_below h (blk_cell BG7.out 8); have x_9 : ∀ W, Below w7.heap.size w7 W → W.cell? ⟨g, 9, none⟩ = some (.slice none 0 0) := fun W h => pw_cell_below h (blk_cell BG7.out 9); have x_10 : ∀ W, Below w7.heap.size w7 W → W.cell? ⟨g, 10, none⟩ = some (.slice none 0 0) := fun W h => pw_cell_below h (blk_cell BG7.out 10); have F0 := Aside0.mk (fun W (h : Below w7.heap.size w7 W) => aw_func0 (AW7.out.below h)); have F2 := Aside0.mk (fun W (h : Below w7.heap.size w7 W) => aw_func2 (AW7.out.below h)); have GL := Aside0.mk (fun W (h : Below w7.heap.size w7 W) => aw_glob (AW7.out.below h)); have CO := Aside0.mk (fun W (h : Below w7.heap.size w7 W) => aw_counts (AW7.out.below h)); clear hA hb ho hs BG HG HB6 n14 B14_6 n16 B16_6 n19 B19_6 n20 B20_6 n22 B22_6)
    | (go_at_call 26; (with_reducible refine (F0.out _ (by assumption)).mono ?_); rintro e w8 ⟨Av, cv, Bv, dv, rfl, hcv, hC0, hC1, hb⟩; have C0 := Aside0.mk hC0; have C1 := Aside0.mk hC1; have CV := Aside0.mk hcv; have hy0 := hy; clear hy; have hy : Below w7.heap.size w7 w8 := below_step hy0 hb; clear hy0; clear hC0 hC1 hcv hb F0)
    | ((with_reducible refine gate_dst (N := 2) rfl ?_); refine box_event ?hg (N := 2) ?hd (cs := #[.slice none 0 0, .slice none 0 0]) (t := 36) ?hr ?_; (case hd => rfl); (case hg => rfl); (case hr => first | (go_simp; done) | (go_simp; rfl)); intro g2 hgg2 w9 hA hb; have G2 := Aside0.mk (show w7.heap.size ≤ g2 ∧ w8.heap.size ≤ g2 by rw [hgg2]; exact ⟨hy.size, Nat.le_refl _⟩); have HX9 := Aside0.mk hb; have B2 := Aside0.mk hA; have hy0 := hy; clear hy; have hy : Below w7.heap.size w7 w9 := below_step hy0 hb; clear hy0; clear hA hb hgg2)
    | ((with_reducible refine gate_store (p := 2) rfl ?_); refine storeRow_event (g := g2) rfl rfl rfl (cs := #[.slice Av 1 cv, .slice Bv 0 dv]) rfl rfl B2.out (by kernel_rfl) rfl (by simp [Value.oneCell']) ?_; intro w10 hA hb ho hs; have BG2 := Aside0.mk hA; have hy0 := hy; clear hy; have hy : Below w7.heap.size w7 w10 := hb _ _ G2.out.1 hy0; have HX10 := Aside0.mk (hb _ _ G2.out.2 HX9.out); have hz : Below w10.heap.size w10 w10 := Below.refl _ _; clear hA hb ho hs hy0 B2 HX9)
    | (go_at_call 26; (with_reducible refine (F2.out _ (by assumption)).mono ?_); rintro e w11 ⟨Aw, cw, Bw, dw, rfl, hb⟩; have hy0 := hy; clear hy; have hy : Below w7.heap.size w7 w11 := below_step hy0 hb; clear hy0; have hz0 := hz; clear hz; have hz : Below w10.heap.size w10 w11 := below_step hz0 hb; clear hz0; clear hb F2)
    | ((with_reducible refine gate_dst (N := 4) rfl ?_); refine box_event ?hg (N := 4) ?hd (cs := #[.slice none 0 0, .slice none 0 0]) (t := 36) ?hr ?_; (case hd => rfl); (case hg => rfl); (case hr => first | (go_simp; done) | (go_simp; rfl)); intro g4 hgg4 w12 hA hb; have G4 := Aside0.mk (show w7.heap.size ≤ g4 ∧ w10.heap.size ≤ g4 by rw [hgg4]; exact ⟨hy.size, hz.size⟩); have B4 := Aside0.mk hA; have hy0 := hy; clear hy; have hy : Below w7.heap.size w7 w12 := below_step hy0 hb; clear hy0; have hz0 := hz; clear hz; have hz : Below w10.heap.size w10 w12 := below_step hz0 hb; clear hz0; clear hA hb hgg4)
    | ((with_reducible refine gate_store (p := 4) rfl ?_); refine storeRow_event (g := g4) rfl rfl rfl (cs := #[.slice Aw 0 cw, .slice Bw 0 dw]) rfl rfl B4.out (by kernel_rfl) rfl (by simp [Value.oneCell']) ?_; intro w13 hA hb ho hs; have hy0 := hy; clear hy; have hy : Below w7.heap.size w7 w13 := hb _ _ G4.out.1 hy0; have hz0 := hz; clear hz; have hz : Below w10.heap.size w10 w13 := hb _ _ G4.out.2 hz0; clear hA hb ho hs hy0 hz0 B4)
    | (go_at_call 28; (with_reducible refine (GL.out _ (by assumption)).mono ?_); rintro e w14 ⟨rfl, hb⟩; have hy0 := hy; clear hy; have hy : Below w7.heap.size w7 w14 := below_step hy0 hb; clear hy0; have hz0 := hz; clear hz; have hz : Below w10.heap.size w10 w14 := below_step hz0 hb; clear hz0; clear hb GL)
    | (go_at_call 30; (with_reducible refine (CO.out _ (by assumption)).mono ?_); rintro e w16 ⟨rfl, hb⟩; have hy0 := hy; clear hy; have hy : Below w7.heap.size w7 w16 := below_step hy0 hb; clear hy0; have hz0 := hz; clear hz; have hz : Below w10.heap.size w10 w16 := below_step hz0 hb; clear hz0; clear hb CO))
  have CT : Aside0 ((Kd.int .i64).C w10 Av [127].length [127]) := ⟨Kd.C_below C0.out HX10.out⟩
  have CU : Aside0 ((Kd.int .i64).C w10 Bv ([] : List Int).length []) := ⟨Kd.C_below C1.out HX10.out⟩
  have CM : Aside0 ((Kd.int .i64).C w16 (some ⟨l14, 0, none⟩) [127].length [127]) := ⟨C_row1 (AW7.out.below hy).1 rfl rfl (by decide)⟩
  have ST : Aside0 (∀ W, Below w16.heap.size w16 W → Calls Try.prog 32 #[.agg #[.slice Av 1 cv, .slice Bv 0 dv], .agg #[.slice (some ⟨l14, 0, none⟩) 1 1, .slice none 0 0]] W fun e w' => e = .returned (.bool true) ∧ Below W.heap.size W w') := ⟨fun W h => peloruslaw0_SameType.calls 100 _ _ ([127] : List Int) _ _ ([] : List Int) _ _ ([127] : List Int) _ _ ([] : List Int) true _ (Kd.C_below CT.out (below_step hz h)) CV.out (Kd.C_below CU.out (below_step hz h)) (Nat.zero_le _) (Kd.C_below CM.out h) (Nat.le_refl _) (Kd.C_nil _ _) (Nat.le_refl _) (by decide +kernel)⟩
  have MY : Aside0 (∀ W, Below w16.heap.size w16 W → Calls Try.prog 35 #[.agg #[.slice Av 1 cv, .slice Bv 0 dv]] W fun e w' => e = .returned (.bool true) ∧ Below W.heap.size W w') := ⟨fun W h => ftype_May.calls 100 _ _ ([127] : List Int) _ _ ([] : List Int) true _ (Kd.C_below CT.out (below_step hz h)) CV.out (Kd.C_below CU.out (below_step hz h)) (Nat.zero_le _) (by decide +kernel)⟩
  have SA : Aside0 (∀ W, Below w16.heap.size w16 W → Calls Try.prog 37 #[.agg #[.slice Av 1 cv, .slice Bv 0 dv], .agg #[.slice Av 1 cv, .slice Bv 0 dv]] W fun e w' => e = .returned (.bool true) ∧ Below W.heap.size W w') := ⟨fun W h => ftype_Same.calls 100 _ _ ([127] : List Int) _ _ ([] : List Int) _ _ ([127] : List Int) _ _ ([] : List Int) true _ (Kd.C_below CT.out (below_step hz h)) CV.out (Kd.C_below CU.out (below_step hz h)) (Nat.zero_le _) (Kd.C_below CT.out (below_step hz h)) CV.out (Kd.C_below CU.out (below_step hz h)) (Nat.zero_le _) (by decide +kernel)⟩
  have z0 : w16.cell? ⟨g, 0, none⟩ = some (.slice (some ⟨l16, 0, none⟩) 2 2) := x_0 _ hy
  have z1 : w16.cell? ⟨l16, 2, none⟩ = some (.slice (some ⟨l14, 0, none⟩) 1 1) := blk_cell (AW7.out.below hy).2.1 2
  have z2 : w16.cell? ⟨l16, 3, none⟩ = some (.slice none 0 0) := blk_cell (AW7.out.below hy).2.1 3
  have z3 : w16.cell? ⟨g2, 0, none⟩ = some (.slice Av 1 cv) := pw_cell_below hz (blk_cell BG2.out 0)
  have z4 : w16.cell? ⟨g2, 1, none⟩ = some (.slice Bv 0 dv) := pw_cell_below hz (blk_cell BG2.out 1)
  have HB16 := Aside0.mk (below_step HB7.out hy)
  clear x_0 x_1 x_2 x_3 x_4 x_5 x_6 x_7 x_8 x_9 x_10 hy hz
  refine start_ (n := 60) (S := fun w' => w'.cell? ⟨g, 0, none⟩ = some (.slice (some ⟨l16, 0, none⟩) 2 2) ∧ w'.cell? ⟨l16, 2, none⟩ = some (.slice (some ⟨l14, 0, none⟩) 1 1) ∧ w'.cell? ⟨l16, 3, none⟩ = some (.slice none 0 0) ∧ w'.cell? ⟨g2, 0, none⟩ = some (.slice Av 1 cv) ∧ w'.cell? ⟨g2, 1, none⟩ = some (.slice Bv 0 dv)) (ds := []) #[false, false, false, false, false, false, false, false, false, false, false, false, false, false, false, false, false, false, false, false, false, false, false, false, false, false, false, false, false, false, false, false, false, false, false, false, false, false, false, false, false, false, false, false, false, false, false, false, false, false, false, false, false, false, false, false, false, false, false, false] (by kernel_rfl) rfl rfl ⟨z0, z1, z2, z3, z4⟩ (fun hHeld => ?_)
  refine pure_ (i := 1) (N := some 48) (v := ?_) (a' := ?_) #[false, true, false, false, false, false, false, false, false, false, false, false, false, false, false, false, false, false, false, false, false, false, false, false, false, false, false, false, false, false, false, false, false, false, false, false, false, false, false, false, false, false, false, false, false, false, false, false, false, false, false, false, false, false, false, false, false, false, false, false] rfl rfl (by kernel_rfl) (fun _ _ _ h => h) (Or.inl ⟨by rfl, ?_⟩) ?_ ?_
  rotate_left
  · intro w'
    go_simp
    with_reducible rfl
  rotate_left
  · simp only [Act.put, List.setIfInBounds_toArray, List.set_cons_zero, List.set_cons_succ, i64_w, i32_w]
    rfl
  refine take_ (i := 0) (N := some 47) (v := ?_) (a' := ?_) #[true, true, false, false, false, false, false, false, false, false, false, false, false, false, false, false, false, false, false, false, false, false, false, false, false, false, false, false, false, false, false, false, false, false, false, false, false, false, false, false, false, false, false, false, false, false, false, false, false, false, false, false, false, false, false, false, false, false, false, false] rfl rfl (by kernel_rfl) (fun _ _ _ h => h) (Or.inl ⟨by rfl, ?_⟩) hHeld ?_ ?_
  rotate_left
  · rintro w' ⟨s0, s1, s2, s3, s4⟩
    go_simp
    with_reducible rfl
  rotate_left
  · simp only [Act.put, List.setIfInBounds_toArray, List.set_cons_zero, List.set_cons_succ, i64_w, i32_w]
    rfl
  refine take_ (i := 2) (N := some 49) (v := ?_) (a' := ?_) #[true, true, true, false, false, false, false, false, false, false, false, false, false, false, false, false, false, false, false, false, false, false, false, false, false, false, false, false, false, false, false, false, false, false, false, false, false, false, false, false, false, false, false, false, false, false, false, false, false, false, false, false, false, false, false, false, false, false, false, false] rfl rfl (by kernel_rfl) (fun _ _ _ h => h) (Or.inl ⟨by rfl, ?_⟩) hHeld ?_ ?_
  rotate_left
  · rintro w' ⟨s0, s1, s2, s3, s4⟩
    go_simp
    with_reducible rfl
  rotate_left
  · simp only [Act.put, List.setIfInBounds_toArray, List.set_cons_zero, List.set_cons_succ, i64_w, i32_w]
    rfl
  refine pure_ (i := 3) (N := some 50) (v := ?_) (a' := ?_) #[true, true, true, true, false, false, false, false, false, false, false, false, false, false, false, false, false, false, false, false, false, false, false, false, false, false, false, false, false, false, false, false, false, false, false, false, false, false, false, false, false, false, false, false, false, false, false, false, false, false, false, false, false, false, false, false, false, false, false, false] rfl rfl (by kernel_rfl) (fun _ _ _ h => h) (Or.inl ⟨by rfl, ?_⟩) ?_ ?_
  rotate_left
  · intro w'
    go_simp
    with_reducible rfl
  rotate_left
  · simp only [Act.put, List.setIfInBounds_toArray, List.set_cons_zero, List.set_cons_succ, i64_w, i32_w]
    rfl
  refine take_ (i := 4) (N := some 51) (v := ?_) (a' := ?_) #[true, true, true, true, true, false, false, false, false, false, false, false, false, false, false, false, false, false, false, false, false, false, false, false, false, false, false, false, false, false, false, false, false, false, false, false, false, false, false, false, false, false, false, false, false, false, false, false, false, false, false, false, false, false, false, false, false, false, false, false] rfl rfl (by kernel_rfl) (fun _ _ _ h => h) (Or.inl ⟨by rfl, ?_⟩) hHeld ?_ ?_
  rotate_left
  · rintro w' ⟨s0, s1, s2, s3, s4⟩
    go_simp
    with_reducible rfl
  rotate_left
  · simp only [Act.put, List.setIfInBounds_toArray, List.set_cons_zero, List.set_cons_succ, i64_w, i32_w]
    rfl
  refine one_ (i := 5) (N := some 52) #[true, true, true, true, true, true, false, false, false, false, false, false, false, false, false, false, false, false, false, false, false, false, false, false, false, false, false, false, false, false, false, false, false, false, false, false, false, false, false, false, false, false, false, false, false, false, false, false, false, false, false, false, false, false, false, false, false, false, false, false] rfl rfl (by kernel_rfl) (by decide) (fun K hK => ?_)
  refine goes_ Try.func32 (by kernel_rfl) rfl #[.agg #[.slice Av 1 cv, .slice Bv 0 dv], .agg #[.slice (some ⟨l14, 0, none⟩) 1 1, .slice none 0 0]] (by rfl) rfl rfl (by simp only [List.map_toArray, List.map_cons, List.map_nil]; rfl) ?_
  with_reducible refine (ST.out _ (below_drew (Below.refl _ _))).mono ?_
  rintro e w17 ⟨rfl, hb⟩
  refine ⟨_, rfl, ?_⟩
  have HB17 : Aside0 (Below w16.heap.size w16 w17) := ⟨below_step (below_drew (Below.refl _ _)) hb⟩
  clear hb
  refine hK.out _ _ ⟨pw_cell_below HB17.out z0, pw_cell_below HB17.out z1, pw_cell_below HB17.out z2, pw_cell_below HB17.out z3, pw_cell_below HB17.out z4⟩ (fun hHeld => ?_)
  clear hK K
  refine norm_ (a' := ?_) ?_ ?_
  rotate_left
  · show Act.put _ (some 52) _ = _
    simp only [Act.put, List.setIfInBounds_toArray, List.set_cons_zero, List.set_cons_succ, i64_w, i32_w]
    rfl
  refine pure_ (i := 6) (N := some 53) (v := ?_) (a' := ?_) #[true, true, true, true, true, true, true, false, false, false, false, false, false, false, false, false, false, false, false, false, false, false, false, false, false, false, false, false, false, false, false, false, false, false, false, false, false, false, false, false, false, false, false, false, false, false, false, false, false, false, false, false, false, false, false, false, false, false, false, false] rfl rfl (by kernel_rfl) (fun _ _ _ h => h) (Or.inl ⟨by rfl, ?_⟩) ?_ ?_
  rotate_left
  · intro w'
    go_simp
    with_reducible rfl
  rotate_left
  · simp only [Act.put, List.setIfInBounds_toArray, List.set_cons_zero, List.set_cons_succ, i64_w, i32_w]
    rfl
  refine pure_ (i := 7) (N := some 54) (v := ?_) (a' := ?_) #[true, true, true, true, true, true, true, true, false, false, false, false, false, false, false, false, false, false, false, false, false, false, false, false, false, false, false, false, false, false, false, false, false, false, false, false, false, false, false, false, false, false, false, false, false, false, false, false, false, false, false, false, false, false, false, false, false, false, false, false] rfl rfl (by kernel_rfl) (fun _ _ _ h => h) (Or.inl ⟨by rfl, ?_⟩) ?_ ?_
  rotate_left
  · intro w'
    go_simp
    with_reducible rfl
  rotate_left
  · simp only [Act.put, List.setIfInBounds_toArray, List.set_cons_zero, List.set_cons_succ, i64_w, i32_w]
    rfl
  refine one_ (i := 8) (N := some 55) #[true, true, true, true, true, true, true, true, true, false, false, false, false, false, false, false, false, false, false, false, false, false, false, false, false, false, false, false, false, false, false, false, false, false, false, false, false, false, false, false, false, false, false, false, false, false, false, false, false, false, false, false, false, false, false, false, false, false, false, false] rfl rfl (by kernel_rfl) (by decide) (fun K hK => ?_)
  refine goes_ Try.func20 (by kernel_rfl) rfl #[.int .i64 0] (by rfl) rfl rfl (by simp only [List.map_toArray, List.map_cons, List.map_nil]; rfl) ?_
  with_reducible refine (peloruslaw0_Num.calls 0 0 _ rfl).mono ?_
  rintro e w18 ⟨rfl, hb⟩
  refine ⟨_, rfl, ?_⟩
  have HB18 : Aside0 (Below w16.heap.size w16 w18) := ⟨below_step (HB17.out) hb.below⟩
  clear hb
  refine hK.out _ _ ⟨pw_cell_below HB18.out z0, pw_cell_below HB18.out z1, pw_cell_below HB18.out z2, pw_cell_below HB18.out z3, pw_cell_below HB18.out z4⟩ (fun hHeld => ?_)
  clear hK K
  refine norm_ (a' := ?_) ?_ ?_
  rotate_left
  · show Act.put _ (some 55) _ = _
    simp only [Act.put, List.setIfInBounds_toArray, List.set_cons_zero, List.set_cons_succ, i64_w, i32_w]
    rfl
  refine pure_ (i := 9) (N := some 56) (v := ?_) (a' := ?_) #[true, true, true, true, true, true, true, true, true, true, false, false, false, false, false, false, false, false, false, false, false, false, false, false, false, false, false, false, false, false, false, false, false, false, false, false, false, false, false, false, false, false, false, false, false, false, false, false, false, false, false, false, false, false, false, false, false, false, false, false] rfl rfl (by kernel_rfl) (fun _ _ _ h => h) (Or.inl ⟨by rfl, ?_⟩) ?_ ?_
  rotate_left
  · intro w'
    go_simp
    with_reducible rfl
  rotate_left
  · simp only [Act.put, List.setIfInBounds_toArray, List.set_cons_zero, List.set_cons_succ, i64_w, i32_w]
    rfl
  refine pure_ (i := 10) (N := some 57) (v := ?_) (a' := ?_) #[true, true, true, true, true, true, true, true, true, true, true, false, false, false, false, false, false, false, false, false, false, false, false, false, false, false, false, false, false, false, false, false, false, false, false, false, false, false, false, false, false, false, false, false, false, false, false, false, false, false, false, false, false, false, false, false, false, false, false, false] rfl rfl (by kernel_rfl) (fun _ _ _ h => h) (Or.inl ⟨by rfl, ?_⟩) ?_ ?_
  rotate_left
  · intro w'
    go_simp
    with_reducible rfl
  rotate_left
  · simp only [Act.put, List.setIfInBounds_toArray, List.set_cons_zero, List.set_cons_succ, i64_w, i32_w]
    rfl
  refine pure_ (i := 11) (N := some 58) (v := ?_) (a' := ?_) #[true, true, true, true, true, true, true, true, true, true, true, true, false, false, false, false, false, false, false, false, false, false, false, false, false, false, false, false, false, false, false, false, false, false, false, false, false, false, false, false, false, false, false, false, false, false, false, false, false, false, false, false, false, false, false, false, false, false, false, false] rfl rfl (by kernel_rfl) (fun _ _ _ h => h) (Or.inl ⟨by rfl, ?_⟩) ?_ ?_
  rotate_left
  · intro w'
    go_simp
    with_reducible rfl
  rotate_left
  · simp only [Act.put, List.setIfInBounds_toArray, List.set_cons_zero, List.set_cons_succ, i64_w, i32_w]
    rfl
  refine pure_ (i := 12) (N := some 59) (v := ?_) (a' := ?_) #[true, true, true, true, true, true, true, true, true, true, true, true, true, false, false, false, false, false, false, false, false, false, false, false, false, false, false, false, false, false, false, false, false, false, false, false, false, false, false, false, false, false, false, false, false, false, false, false, false, false, false, false, false, false, false, false, false, false, false, false] rfl rfl (by kernel_rfl) (fun _ _ _ h => h) (Or.inl ⟨by rfl, ?_⟩) ?_ ?_
  rotate_left
  · intro w'
    go_simp
    with_reducible rfl
  rotate_left
  · simp only [Act.put, List.setIfInBounds_toArray, List.set_cons_zero, List.set_cons_succ, i64_w, i32_w]
    rfl
  refine one_ (i := 13) (N := some 60) #[true, true, true, true, true, true, true, true, true, true, true, true, true, true, false, false, false, false, false, false, false, false, false, false, false, false, false, false, false, false, false, false, false, false, false, false, false, false, false, false, false, false, false, false, false, false, false, false, false, false, false, false, false, false, false, false, false, false, false, false] rfl rfl (by kernel_rfl) (by decide) (fun K hK => ?_)
  refine goes_ Try.func20 (by kernel_rfl) rfl #[.int .i64 1701] (by rfl) rfl rfl (by simp only [List.map_toArray, List.map_cons, List.map_nil]; rfl) ?_
  with_reducible refine (peloruslaw0_Num.calls 1701 1701 _ rfl).mono ?_
  rintro e w19 ⟨rfl, hb⟩
  refine ⟨_, rfl, ?_⟩
  have HB19 : Aside0 (Below w16.heap.size w16 w19) := ⟨below_step (HB18.out) hb.below⟩
  clear hb
  refine hK.out _ _ ⟨pw_cell_below HB19.out z0, pw_cell_below HB19.out z1, pw_cell_below HB19.out z2, pw_cell_below HB19.out z3, pw_cell_below HB19.out z4⟩ (fun hHeld => ?_)
  clear hK K
  refine norm_ (a' := ?_) ?_ ?_
  rotate_left
  · show Act.put _ (some 60) _ = _
    simp only [Act.put, List.setIfInBounds_toArray, List.set_cons_zero, List.set_cons_succ, i64_w, i32_w]
    rfl
  refine pure_ (i := 14) (N := some 61) (v := ?_) (a' := ?_) #[true, true, true, true, true, true, true, true, true, true, true, true, true, true, true, false, false, false, false, false, false, false, false, false, false, false, false, false, false, false, false, false, false, false, false, false, false, false, false, false, false, false, false, false, false, false, false, false, false, false, false, false, false, false, false, false, false, false, false, false] rfl rfl (by kernel_rfl) (fun _ _ _ h => h) (Or.inl ⟨by rfl, ?_⟩) ?_ ?_
  rotate_left
  · intro w'
    go_simp
    with_reducible rfl
  rotate_left
  · simp only [Act.put, List.setIfInBounds_toArray, List.set_cons_zero, List.set_cons_succ, i64_w, i32_w]
    rfl
  refine pure_ (i := 15) (N := some 62) (v := ?_) (a' := ?_) #[true, true, true, true, true, true, true, true, true, true, true, true, true, true, true, true, false, false, false, false, false, false, false, false, false, false, false, false, false, false, false, false, false, false, false, false, false, false, false, false, false, false, false, false, false, false, false, false, false, false, false, false, false, false, false, false, false, false, false, false] rfl rfl (by kernel_rfl) (fun _ _ _ h => h) (Or.inl ⟨by rfl, ?_⟩) ?_ ?_
  rotate_left
  · intro w'
    go_simp
    with_reducible rfl
  rotate_left
  · simp only [Act.put, List.setIfInBounds_toArray, List.set_cons_zero, List.set_cons_succ, i64_w, i32_w]
    rfl
  refine pure_ (i := 16) (N := some 63) (v := ?_) (a' := ?_) #[true, true, true, true, true, true, true, true, true, true, true, true, true, true, true, true, true, false, false, false, false, false, false, false, false, false, false, false, false, false, false, false, false, false, false, false, false, false, false, false, false, false, false, false, false, false, false, false, false, false, false, false, false, false, false, false, false, false, false, false] rfl rfl (by kernel_rfl) (fun _ _ _ h => h) (Or.inl ⟨by rfl, ?_⟩) ?_ ?_
  rotate_left
  · intro w'
    go_simp
    with_reducible rfl
  rotate_left
  · simp only [Act.put, List.setIfInBounds_toArray, List.set_cons_zero, List.set_cons_succ, i64_w, i32_w]
    rfl
  refine pure_ (i := 17) (N := some 64) (v := ?_) (a' := ?_) #[true, true, true, true, true, true, true, true, true, true, true, true, true, true, true, true, true, true, false, false, false, false, false, false, false, false, false, false, false, false, false, false, false, false, false, false, false, false, false, false, false, false, false, false, false, false, false, false, false, false, false, false, false, false, false, false, false, false, false, false] rfl rfl (by kernel_rfl) (fun _ _ _ h => h) (Or.inl ⟨by rfl, ?_⟩) ?_ ?_
  rotate_left
  · intro w'
    go_simp
    with_reducible rfl
  rotate_left
  · simp only [Act.put, List.setIfInBounds_toArray, List.set_cons_zero, List.set_cons_succ, i64_w, i32_w]
    rfl
  refine pure_ (i := 18) (N := some 65) (v := ?_) (a' := ?_) #[true, true, true, true, true, true, true, true, true, true, true, true, true, true, true, true, true, true, true, false, false, false, false, false, false, false, false, false, false, false, false, false, false, false, false, false, false, false, false, false, false, false, false, false, false, false, false, false, false, false, false, false, false, false, false, false, false, false, false, false] rfl rfl (by kernel_rfl) (fun _ _ _ h => h) (Or.inl ⟨by rfl, ?_⟩) ?_ ?_
  rotate_left
  · intro w'
    go_simp
    with_reducible rfl
  rotate_left
  · simp only [Act.put, List.setIfInBounds_toArray, List.set_cons_zero, List.set_cons_succ, i64_w, i32_w]
    rfl
  refine pure_ (i := 19) (N := some 66) (v := ?_) (a' := ?_) #[true, true, true, true, true, true, true, true, true, true, true, true, true, true, true, true, true, true, true, true, false, false, false, false, false, false, false, false, false, false, false, false, false, false, false, false, false, false, false, false, false, false, false, false, false, false, false, false, false, false, false, false, false, false, false, false, false, false, false, false] rfl rfl (by kernel_rfl) (fun _ _ _ h => h) (Or.inl ⟨by rfl, ?_⟩) ?_ ?_
  rotate_left
  · intro w'
    go_simp
    with_reducible rfl
  rotate_left
  · simp only [Act.put, List.setIfInBounds_toArray, List.set_cons_zero, List.set_cons_succ, i64_w, i32_w]
    rfl
  refine pure_ (i := 20) (N := some 67) (v := ?_) (a' := ?_) #[true, true, true, true, true, true, true, true, true, true, true, true, true, true, true, true, true, true, true, true, true, false, false, false, false, false, false, false, false, false, false, false, false, false, false, false, false, false, false, false, false, false, false, false, false, false, false, false, false, false, false, false, false, false, false, false, false, false, false, false] rfl rfl (by kernel_rfl) (fun _ _ _ h => h) (Or.inl ⟨by rfl, ?_⟩) ?_ ?_
  rotate_left
  · intro w'
    go_simp
    with_reducible rfl
  rotate_left
  · simp only [Act.put, List.setIfInBounds_toArray, List.set_cons_zero, List.set_cons_succ, i64_w, i32_w]
    rfl
  refine pure_ (i := 21) (N := some 68) (v := ?_) (a' := ?_) #[true, true, true, true, true, true, true, true, true, true, true, true, true, true, true, true, true, true, true, true, true, true, false, false, false, false, false, false, false, false, false, false, false, false, false, false, false, false, false, false, false, false, false, false, false, false, false, false, false, false, false, false, false, false, false, false, false, false, false, false] rfl rfl (by kernel_rfl) (fun _ _ _ h => h) (Or.inl ⟨by rfl, ?_⟩) ?_ ?_
  rotate_left
  · intro w'
    go_simp
    with_reducible rfl
  rotate_left
  · simp only [Act.put, List.setIfInBounds_toArray, List.set_cons_zero, List.set_cons_succ, i64_w, i32_w]
    rfl
  refine pure_ (i := 22) (N := some 69) (v := ?_) (a' := ?_) #[true, true, true, true, true, true, true, true, true, true, true, true, true, true, true, true, true, true, true, true, true, true, true, false, false, false, false, false, false, false, false, false, false, false, false, false, false, false, false, false, false, false, false, false, false, false, false, false, false, false, false, false, false, false, false, false, false, false, false, false] rfl rfl (by kernel_rfl) (fun _ _ _ h => h) (Or.inl ⟨by rfl, ?_⟩) ?_ ?_
  rotate_left
  · intro w'
    go_simp
    with_reducible rfl
  rotate_left
  · simp only [Act.put, List.setIfInBounds_toArray, List.set_cons_zero, List.set_cons_succ, i64_w, i32_w]
    rfl
  refine pure_ (i := 23) (N := some 70) (v := ?_) (a' := ?_) #[true, true, true, true, true, true, true, true, true, true, true, true, true, true, true, true, true, true, true, true, true, true, true, true, false, false, false, false, false, false, false, false, false, false, false, false, false, false, false, false, false, false, false, false, false, false, false, false, false, false, false, false, false, false, false, false, false, false, false, false] rfl rfl (by kernel_rfl) (fun _ _ _ h => h) (Or.inl ⟨by rfl, ?_⟩) ?_ ?_
  rotate_left
  · intro w'
    go_simp
    with_reducible rfl
  rotate_left
  · simp only [Act.put, List.setIfInBounds_toArray, List.set_cons_zero, List.set_cons_succ, i64_w, i32_w]
    rfl
  refine pure_ (i := 24) (N := some 71) (v := ?_) (a' := ?_) #[true, true, true, true, true, true, true, true, true, true, true, true, true, true, true, true, true, true, true, true, true, true, true, true, true, false, false, false, false, false, false, false, false, false, false, false, false, false, false, false, false, false, false, false, false, false, false, false, false, false, false, false, false, false, false, false, false, false, false, false] rfl rfl (by kernel_rfl) (fun _ _ _ h => h) (Or.inl ⟨by rfl, ?_⟩) ?_ ?_
  rotate_left
  · intro w'
    go_simp
    with_reducible rfl
  rotate_left
  · simp only [Act.put, List.setIfInBounds_toArray, List.set_cons_zero, List.set_cons_succ, i64_w, i32_w]
    rfl
  refine one_ (i := 25) (N := some 72) #[true, true, true, true, true, true, true, true, true, true, true, true, true, true, true, true, true, true, true, true, true, true, true, true, true, true, false, false, false, false, false, false, false, false, false, false, false, false, false, false, false, false, false, false, false, false, false, false, false, false, false, false, false, false, false, false, false, false, false, false] rfl rfl (by kernel_rfl) (by decide) (fun K hK => ?_)
  refine goes_ Try.func20 (by kernel_rfl) rfl #[.int .i64 0] (by rfl) rfl rfl (by simp only [List.map_toArray, List.map_cons, List.map_nil]; rfl) ?_
  with_reducible refine (peloruslaw0_Num.calls 0 0 _ rfl).mono ?_
  rintro e w20 ⟨rfl, hb⟩
  refine ⟨_, rfl, ?_⟩
  have HB20 : Aside0 (Below w16.heap.size w16 w20) := ⟨below_step (HB19.out) hb.below⟩
  clear hb
  refine hK.out _ _ ⟨pw_cell_below HB20.out z0, pw_cell_below HB20.out z1, pw_cell_below HB20.out z2, pw_cell_below HB20.out z3, pw_cell_below HB20.out z4⟩ (fun hHeld => ?_)
  clear hK K
  refine norm_ (a' := ?_) ?_ ?_
  rotate_left
  · show Act.put _ (some 72) _ = _
    simp only [Act.put, List.setIfInBounds_toArray, List.set_cons_zero, List.set_cons_succ, i64_w, i32_w]
    rfl
  refine pure_ (i := 26) (N := some 73) (v := ?_) (a' := ?_) #[true, true, true, true, true, true, true, true, true, true, true, true, true, true, true, true, true, true, true, true, true, true, true, true, true, true, true, false, false, false, false, false, false, false, false, false, false, false, false, false, false, false, false, false, false, false, false, false, false, false, false, false, false, false, false, false, false, false, false, false] rfl rfl (by kernel_rfl) (fun _ _ _ h => h) (Or.inl ⟨by rfl, ?_⟩) ?_ ?_
  rotate_left
  · intro w'
    go_simp
    with_reducible rfl
  rotate_left
  · simp only [Act.put, List.setIfInBounds_toArray, List.set_cons_zero, List.set_cons_succ, i64_w, i32_w]
    rfl
  refine pure_ (i := 27) (N := some 74) (v := ?_) (a' := ?_) #[true, true, true, true, true, true, true, true, true, true, true, true, true, true, true, true, true, true, true, true, true, true, true, true, true, true, true, true, false, false, false, false, false, false, false, false, false, false, false, false, false, false, false, false, false, false, false, false, false, false, false, false, false, false, false, false, false, false, false, false] rfl rfl (by kernel_rfl) (fun _ _ _ h => h) (Or.inl ⟨by rfl, ?_⟩) ?_ ?_
  rotate_left
  · intro w'
    go_simp
    with_reducible rfl
  rotate_left
  · simp only [Act.put, List.setIfInBounds_toArray, List.set_cons_zero, List.set_cons_succ, i64_w, i32_w]
    rfl
  refine pure_ (i := 28) (N := some 75) (v := ?_) (a' := ?_) #[true, true, true, true, true, true, true, true, true, true, true, true, true, true, true, true, true, true, true, true, true, true, true, true, true, true, true, true, true, false, false, false, false, false, false, false, false, false, false, false, false, false, false, false, false, false, false, false, false, false, false, false, false, false, false, false, false, false, false, false] rfl rfl (by kernel_rfl) (fun _ _ _ h => h) (Or.inl ⟨by rfl, ?_⟩) ?_ ?_
  rotate_left
  · intro w'
    go_simp
    with_reducible rfl
  rotate_left
  · simp only [Act.put, List.setIfInBounds_toArray, List.set_cons_zero, List.set_cons_succ, i64_w, i32_w]
    rfl
  refine pure_ (i := 29) (N := some 76) (v := ?_) (a' := ?_) #[true, true, true, true, true, true, true, true, true, true, true, true, true, true, true, true, true, true, true, true, true, true, true, true, true, true, true, true, true, true, false, false, false, false, false, false, false, false, false, false, false, false, false, false, false, false, false, false, false, false, false, false, false, false, false, false, false, false, false, false] rfl rfl (by kernel_rfl) (fun _ _ _ h => h) (Or.inl ⟨by rfl, ?_⟩) ?_ ?_
  rotate_left
  · intro w'
    go_simp
    with_reducible rfl
  rotate_left
  · simp only [Act.put, List.setIfInBounds_toArray, List.set_cons_zero, List.set_cons_succ, i64_w, i32_w]
    rfl
  refine pure_ (i := 30) (N := some 77) (v := ?_) (a' := ?_) #[true, true, true, true, true, true, true, true, true, true, true, true, true, true, true, true, true, true, true, true, true, true, true, true, true, true, true, true, true, true, true, false, false, false, false, false, false, false, false, false, false, false, false, false, false, false, false, false, false, false, false, false, false, false, false, false, false, false, false, false] rfl rfl (by kernel_rfl) (fun _ _ _ h => h) (Or.inl ⟨by rfl, ?_⟩) ?_ ?_
  rotate_left
  · intro w'
    go_simp
    with_reducible rfl
  rotate_left
  · simp only [Act.put, List.setIfInBounds_toArray, List.set_cons_zero, List.set_cons_succ, i64_w, i32_w]
    rfl
  refine pure_ (i := 31) (N := some 78) (v := ?_) (a' := ?_) #[true, true, true, true, true, true, true, true, true, true, true, true, true, true, true, true, true, true, true, true, true, true, true, true, true, true, true, true, true, true, true, true, false, false, false, false, false, false, false, false, false, false, false, false, false, false, false, false, false, false, false, false, false, false, false, false, false, false, false, false] rfl rfl (by kernel_rfl) (fun _ _ _ h => h) (Or.inl ⟨by rfl, ?_⟩) ?_ ?_
  rotate_left
  · intro w'
    go_simp
    with_reducible rfl
  rotate_left
  · simp only [Act.put, List.setIfInBounds_toArray, List.set_cons_zero, List.set_cons_succ, i64_w, i32_w]
    rfl
  refine pure_ (i := 32) (N := some 79) (v := ?_) (a' := ?_) #[true, true, true, true, true, true, true, true, true, true, true, true, true, true, true, true, true, true, true, true, true, true, true, true, true, true, true, true, true, true, true, true, true, false, false, false, false, false, false, false, false, false, false, false, false, false, false, false, false, false, false, false, false, false, false, false, false, false, false, false] rfl rfl (by kernel_rfl) (fun _ _ _ h => h) (Or.inl ⟨by rfl, ?_⟩) ?_ ?_
  rotate_left
  · intro w'
    go_simp
    with_reducible rfl
  rotate_left
  · simp only [Act.put, List.setIfInBounds_toArray, List.set_cons_zero, List.set_cons_succ, i64_w, i32_w]
    rfl
  refine pure_ (i := 33) (N := some 80) (v := ?_) (a' := ?_) #[true, true, true, true, true, true, true, true, true, true, true, true, true, true, true, true, true, true, true, true, true, true, true, true, true, true, true, true, true, true, true, true, true, true, false, false, false, false, false, false, false, false, false, false, false, false, false, false, false, false, false, false, false, false, false, false, false, false, false, false] rfl rfl (by kernel_rfl) (fun _ _ _ h => h) (Or.inl ⟨by rfl, ?_⟩) ?_ ?_
  rotate_left
  · intro w'
    go_simp
    with_reducible rfl
  rotate_left
  · simp only [Act.put, List.setIfInBounds_toArray, List.set_cons_zero, List.set_cons_succ, i64_w, i32_w]
    rfl
  refine pure_ (i := 34) (N := some 81) (v := ?_) (a' := ?_) #[true, true, true, true, true, true, true, true, true, true, true, true, true, true, true, true, true, true, true, true, true, true, true, true, true, true, true, true, true, true, true, true, true, true, true, false, false, false, false, false, false, false, false, false, false, false, false, false, false, false, false, false, false, false, false, false, false, false, false, false] rfl rfl (by kernel_rfl) (fun _ _ _ h => h) (Or.inl ⟨by rfl, ?_⟩) ?_ ?_
  rotate_left
  · intro w'
    go_simp
    with_reducible rfl
  rotate_left
  · simp only [Act.put, List.setIfInBounds_toArray, List.set_cons_zero, List.set_cons_succ, i64_w, i32_w]
    rfl
  refine pure_ (i := 35) (N := some 82) (v := ?_) (a' := ?_) #[true, true, true, true, true, true, true, true, true, true, true, true, true, true, true, true, true, true, true, true, true, true, true, true, true, true, true, true, true, true, true, true, true, true, true, true, false, false, false, false, false, false, false, false, false, false, false, false, false, false, false, false, false, false, false, false, false, false, false, false] rfl rfl (by kernel_rfl) (fun _ _ _ h => h) (Or.inl ⟨by rfl, ?_⟩) ?_ ?_
  rotate_left
  · intro w'
    go_simp
    with_reducible rfl
  rotate_left
  · simp only [Act.put, List.setIfInBounds_toArray, List.set_cons_zero, List.set_cons_succ, i64_w, i32_w]
    rfl
  refine pure_ (i := 36) (N := some 83) (v := ?_) (a' := ?_) #[true, true, true, true, true, true, true, true, true, true, true, true, true, true, true, true, true, true, true, true, true, true, true, true, true, true, true, true, true, true, true, true, true, true, true, true, true, false, false, false, false, false, false, false, false, false, false, false, false, false, false, false, false, false, false, false, false, false, false, false] rfl rfl (by kernel_rfl) (fun _ _ _ h => h) (Or.inl ⟨by rfl, ?_⟩) ?_ ?_
  rotate_left
  · intro w'
    go_simp
    with_reducible rfl
  rotate_left
  · simp only [Act.put, List.setIfInBounds_toArray, List.set_cons_zero, List.set_cons_succ, i64_w, i32_w]
    rfl
  refine pure_ (i := 37) (N := some 84) (v := ?_) (a' := ?_) #[true, true, true, true, true, true, true, true, true, true, true, true, true, true, true, true, true, true, true, true, true, true, true, true, true, true, true, true, true, true, true, true, true, true, true, true, true, true, false, false, false, false, false, false, false, false, false, false, false, false, false, false, false, false, false, false, false, false, false, false] rfl rfl (by kernel_rfl) (fun _ _ _ h => h) (Or.inl ⟨by rfl, ?_⟩) ?_ ?_
  rotate_left
  · intro w'
    go_simp
    with_reducible rfl
  rotate_left
  · simp only [Act.put, List.setIfInBounds_toArray, List.set_cons_zero, List.set_cons_succ, i64_w, i32_w]
    rfl
  refine pure_ (i := 38) (N := some 85) (v := ?_) (a' := ?_) #[true, true, true, true, true, true, true, true, true, true, true, true, true, true, true, true, true, true, true, true, true, true, true, true, true, true, true, true, true, true, true, true, true, true, true, true, true, true, true, false, false, false, false, false, false, false, false, false, false, false, false, false, false, false, false, false, false, false, false, false] rfl rfl (by kernel_rfl) (fun _ _ _ h => h) (Or.inl ⟨by rfl, ?_⟩) ?_ ?_
  rotate_left
  · intro w'
    go_simp
    with_reducible rfl
  rotate_left
  · simp only [Act.put, List.setIfInBounds_toArray, List.set_cons_zero, List.set_cons_succ, i64_w, i32_w]
    rfl
  refine pure_ (i := 39) (N := some 86) (v := ?_) (a' := ?_) #[true, true, true, true, true, true, true, true, true, true, true, true, true, true, true, true, true, true, true, true, true, true, true, true, true, true, true, true, true, true, true, true, true, true, true, true, true, true, true, true, false, false, false, false, false, false, false, false, false, false, false, false, false, false, false, false, false, false, false, false] rfl rfl (by kernel_rfl) (fun _ _ _ h => h) (Or.inl ⟨by rfl, ?_⟩) ?_ ?_
  rotate_left
  · intro w'
    go_simp
    with_reducible rfl
  rotate_left
  · simp only [Act.put, List.setIfInBounds_toArray, List.set_cons_zero, List.set_cons_succ, i64_w, i32_w]
    rfl
  refine pure_ (i := 40) (N := some 87) (v := ?_) (a' := ?_) #[true, true, true, true, true, true, true, true, true, true, true, true, true, true, true, true, true, true, true, true, true, true, true, true, true, true, true, true, true, true, true, true, true, true, true, true, true, true, true, true, true, false, false, false, false, false, false, false, false, false, false, false, false, false, false, false, false, false, false, false] rfl rfl (by kernel_rfl) (fun _ _ _ h => h) (Or.inl ⟨by rfl, ?_⟩) ?_ ?_
  rotate_left
  · intro w'
    go_simp
    with_reducible rfl
  rotate_left
  · simp only [Act.put, List.setIfInBounds_toArray, List.set_cons_zero, List.set_cons_succ, i64_w, i32_w]
    rfl
  refine pure_ (i := 41) (N := some 88) (v := ?_) (a' := ?_) #[true, true, true, true, true, true, true, true, true, true, true, true, true, true, true, true, true, true, true, true, true, true, true, true, true, true, true, true, true, true, true, true, true, true, true, true, true, true, true, true, true, true, false, false, false, false, false, false, false, false, false, false, false, false, false, false, false, false, false, false] rfl rfl (by kernel_rfl) (fun _ _ _ h => h) (Or.inl ⟨by rfl, ?_⟩) ?_ ?_
  rotate_left
  · intro w'
    go_simp
    with_reducible rfl
  rotate_left
  · simp only [Act.put, List.setIfInBounds_toArray, List.set_cons_zero, List.set_cons_succ, i64_w, i32_w]
    rfl
  refine pure_ (i := 42) (N := some 89) (v := ?_) (a' := ?_) #[true, true, true, true, true, true, true, true, true, true, true, true, true, true, true, true, true, true, true, true, true, true, true, true, true, true, true, true, true, true, true, true, true, true, true, true, true, true, true, true, true, true, true, false, false, false, false, false, false, false, false, false, false, false, false, false, false, false, false, false] rfl rfl (by kernel_rfl) (fun _ _ _ h => h) (Or.inl ⟨by rfl, ?_⟩) ?_ ?_
  rotate_left
  · intro w'
    go_simp
    with_reducible rfl
  rotate_left
  · simp only [Act.put, List.setIfInBounds_toArray, List.set_cons_zero, List.set_cons_succ, i64_w, i32_w]
    rfl
  refine pure_ (i := 43) (N := some 90) (v := ?_) (a' := ?_) #[true, true, true, true, true, true, true, true, true, true, true, true, true, true, true, true, true, true, true, true, true, true, true, true, true, true, true, true, true, true, true, true, true, true, true, true, true, true, true, true, true, true, true, true, false, false, false, false, false, false, false, false, false, false, false, false, false, false, false, false] rfl rfl (by kernel_rfl) (fun _ _ _ h => h) (Or.inl ⟨by rfl, ?_⟩) ?_ ?_
  rotate_left
  · intro w'
    go_simp
    with_reducible rfl
  rotate_left
  · simp only [Act.put, List.setIfInBounds_toArray, List.set_cons_zero, List.set_cons_succ, i64_w, i32_w]
    rfl
  refine pure_ (i := 44) (N := some 91) (v := ?_) (a' := ?_) #[true, true, true, true, true, true, true, true, true, true, true, true, true, true, true, true, true, true, true, true, true, true, true, true, true, true, true, true, true, true, true, true, true, true, true, true, true, true, true, true, true, true, true, true, true, false, false, false, false, false, false, false, false, false, false, false, false, false, false, false] rfl rfl (by kernel_rfl) (fun _ _ _ h => h) (Or.inl ⟨by rfl, ?_⟩) ?_ ?_
  rotate_left
  · intro w'
    go_simp
    with_reducible rfl
  rotate_left
  · simp only [Act.put, List.setIfInBounds_toArray, List.set_cons_zero, List.set_cons_succ, i64_w, i32_w]
    rfl
  refine take_ (i := 45) (N := some 92) (v := ?_) (a' := ?_) #[true, true, true, true, true, true, true, true, true, true, true, true, true, true, true, true, true, true, true, true, true, true, true, true, true, true, true, true, true, true, true, true, true, true, true, true, true, true, true, true, true, true, true, true, true, true, false, false, false, false, false, false, false, false, false, false, false, false, false, false] rfl rfl (by kernel_rfl) (fun _ _ _ h => h) (Or.inl ⟨by rfl, ?_⟩) hHeld ?_ ?_
  rotate_left
  · rintro w' ⟨s0, s1, s2, s3, s4⟩
    go_simp
    with_reducible rfl
  rotate_left
  · simp only [Act.put, List.setIfInBounds_toArray, List.set_cons_zero, List.set_cons_succ, i64_w, i32_w]
    rfl
  refine one_ (i := 46) (N := some 93) #[true, true, true, true, true, true, true, true, true, true, true, true, true, true, true, true, true, true, true, true, true, true, true, true, true, true, true, true, true, true, true, true, true, true, true, true, true, true, true, true, true, true, true, true, true, true, true, false, false, false, false, false, false, false, false, false, false, false, false, false] rfl rfl (by kernel_rfl) (by decide) (fun K hK => ?_)
  refine goes_ Try.func35 (by kernel_rfl) rfl #[.agg #[.slice Av 1 cv, .slice Bv 0 dv]] (by rfl) rfl rfl (by simp only [List.map_toArray, List.map_cons, List.map_nil]; rfl) ?_
  with_reducible refine (MY.out _ (HB20.out)).mono ?_
  rintro e w21 ⟨rfl, hb⟩
  refine ⟨_, rfl, ?_⟩
  have HB21 : Aside0 (Below w16.heap.size w16 w21) := ⟨below_step (HB20.out) hb⟩
  clear hb
  refine hK.out _ _ ⟨pw_cell_below HB21.out z0, pw_cell_below HB21.out z1, pw_cell_below HB21.out z2, pw_cell_below HB21.out z3, pw_cell_below HB21.out z4⟩ (fun hHeld => ?_)
  clear hK K
  refine norm_ (a' := ?_) ?_ ?_
  rotate_left
  · show Act.put _ (some 93) _ = _
    simp only [Act.put, List.setIfInBounds_toArray, List.set_cons_zero, List.set_cons_succ, i64_w, i32_w]
    rfl
  refine pure_ (i := 47) (N := some 94) (v := ?_) (a' := ?_) #[true, true, true, true, true, true, true, true, true, true, true, true, true, true, true, true, true, true, true, true, true, true, true, true, true, true, true, true, true, true, true, true, true, true, true, true, true, true, true, true, true, true, true, true, true, true, true, true, false, false, false, false, false, false, false, false, false, false, false, false] rfl rfl (by kernel_rfl) (fun _ _ _ h => h) (Or.inl ⟨by rfl, ?_⟩) ?_ ?_
  rotate_left
  · intro w'
    go_simp
    with_reducible rfl
  rotate_left
  · simp only [Act.put, List.setIfInBounds_toArray, List.set_cons_zero, List.set_cons_succ, i64_w, i32_w]
    rfl
  refine pure_ (i := 48) (N := some 95) (v := ?_) (a' := ?_) #[true, true, true, true, true, true, true, true, true, true, true, true, true, true, true, true, true, true, true, true, true, true, true, true, true, true, true, true, true, true, true, true, true, true, true, true, true, true, true, true, true, true, true, true, true, true, true, true, true, false, false, false, false, false, false, false, false, false, false, false] rfl rfl (by kernel_rfl) (fun _ _ _ h => h) (Or.inl ⟨by rfl, ?_⟩) ?_ ?_
  rotate_left
  · intro w'
    go_simp
    with_reducible rfl
  rotate_left
  · simp only [Act.put, List.setIfInBounds_toArray, List.set_cons_zero, List.set_cons_succ, i64_w, i32_w]
    rfl
  refine take_ (i := 49) (N := some 96) (v := ?_) (a' := ?_) #[true, true, true, true, true, true, true, true, true, true, true, true, true, true, true, true, true, true, true, true, true, true, true, true, true, true, true, true, true, true, true, true, true, true, true, true, true, true, true, true, true, true, true, true, true, true, true, true, true, true, false, false, false, false, false, false, false, false, false, false] rfl rfl (by kernel_rfl) (fun _ _ _ h => h) (Or.inl ⟨by rfl, ?_⟩) hHeld ?_ ?_
  rotate_left
  · rintro w' ⟨s0, s1, s2, s3, s4⟩
    go_simp
    with_reducible rfl
  rotate_left
  · simp only [Act.put, List.setIfInBounds_toArray, List.set_cons_zero, List.set_cons_succ, i64_w, i32_w]
    rfl
  refine take_ (i := 50) (N := some 97) (v := ?_) (a' := ?_) #[true, true, true, true, true, true, true, true, true, true, true, true, true, true, true, true, true, true, true, true, true, true, true, true, true, true, true, true, true, true, true, true, true, true, true, true, true, true, true, true, true, true, true, true, true, true, true, true, true, true, true, false, false, false, false, false, false, false, false, false] rfl rfl (by kernel_rfl) (fun _ _ _ h => h) (Or.inl ⟨by rfl, ?_⟩) hHeld ?_ ?_
  rotate_left
  · rintro w' ⟨s0, s1, s2, s3, s4⟩
    go_simp
    with_reducible rfl
  rotate_left
  · simp only [Act.put, List.setIfInBounds_toArray, List.set_cons_zero, List.set_cons_succ, i64_w, i32_w]
    rfl
  refine one_ (i := 51) (N := some 98) #[true, true, true, true, true, true, true, true, true, true, true, true, true, true, true, true, true, true, true, true, true, true, true, true, true, true, true, true, true, true, true, true, true, true, true, true, true, true, true, true, true, true, true, true, true, true, true, true, true, true, true, true, false, false, false, false, false, false, false, false] rfl rfl (by kernel_rfl) (by decide) (fun K hK => ?_)
  refine goes_ Try.func37 (by kernel_rfl) rfl #[.agg #[.slice Av 1 cv, .slice Bv 0 dv], .agg #[.slice Av 1 cv, .slice Bv 0 dv]] (by rfl) rfl rfl (by simp only [List.map_toArray, List.map_cons, List.map_nil]; rfl) ?_
  with_reducible refine (SA.out _ (HB21.out)).mono ?_
  rintro e w22 ⟨rfl, hb⟩
  refine ⟨_, rfl, ?_⟩
  have HB22 : Aside0 (Below w16.heap.size w16 w22) := ⟨below_step (HB21.out) hb⟩
  clear hb
  refine hK.out _ _ ⟨pw_cell_below HB22.out z0, pw_cell_below HB22.out z1, pw_cell_below HB22.out z2, pw_cell_below HB22.out z3, pw_cell_below HB22.out z4⟩ (fun hHeld => ?_)
  clear hK K
  refine norm_ (a' := ?_) ?_ ?_
  rotate_left
  · show Act.put _ (some 98) _ = _
    simp only [Act.put, List.setIfInBounds_toArray, List.set_cons_zero, List.set_cons_succ, i64_w, i32_w]
    rfl
  refine pure_ (i := 52) (N := some 99) (v := ?_) (a' := ?_) #[true, true, true, true, true, true, true, true, true, true, true, true, true, true, true, true, true, true, true, true, true, true, true, true, true, true, true, true, true, true, true, true, true, true, true, true, true, true, true, true, true, true, true, true, true, true, true, true, true, true, true, true, true, false, false, false, false, false, false, false] rfl rfl (by kernel_rfl) (fun _ _ _ h => h) (Or.inl ⟨by rfl, ?_⟩) ?_ ?_
  rotate_left
  · intro w'
    go_simp
    with_reducible rfl
  rotate_left
  · simp only [Act.put, List.setIfInBounds_toArray, List.set_cons_zero, List.set_cons_succ, i64_w, i32_w]
    rfl
  refine pure_ (i := 53) (N := some 100) (v := ?_) (a' := ?_) #[true, true, true, true, true, true, true, true, true, true, true, true, true, true, true, true, true, true, true, true, true, true, true, true, true, true, true, true, true, true, true, true, true, true, true, true, true, true, true, true, true, true, true, true, true, true, true, true, true, true, true, true, true, true, false, false, false, false, false, false] rfl rfl (by kernel_rfl) (fun _ _ _ h => h) (Or.inl ⟨by rfl, ?_⟩) ?_ ?_
  rotate_left
  · intro w'
    go_simp
    with_reducible rfl
  rotate_left
  · simp only [Act.put, List.setIfInBounds_toArray, List.set_cons_zero, List.set_cons_succ, i64_w, i32_w]
    rfl
  refine one_ (i := 54) (N := some 101) #[true, true, true, true, true, true, true, true, true, true, true, true, true, true, true, true, true, true, true, true, true, true, true, true, true, true, true, true, true, true, true, true, true, true, true, true, true, true, true, true, true, true, true, true, true, true, true, true, true, true, true, true, true, true, true, false, false, false, false, false] rfl rfl (by kernel_rfl) (by decide) (fun K hK => ?_)
  refine lit_step ?hw (N := 101) ?hd (cs := #[.int .i64 1]) (t := 3) (n := 1) ?hr ?_
  case hw => rfl
  case hd => rfl
  case hr => first | (go_simp; done) | (go_simp; rfl)
  intro lx hlx w23 hA hb
  have BX := Aside0.mk hA
  have HB23 : Aside0 (Below w16.heap.size w16 w23) := ⟨below_step (HB22.out) hb⟩
  clear hA hb hlx
  refine hK.out _ _ ⟨pw_cell_below HB23.out z0, pw_cell_below HB23.out z1, pw_cell_below HB23.out z2, pw_cell_below HB23.out z3, pw_cell_below HB23.out z4⟩ (fun hHeld => ?_)
  clear hK K
  refine norm_ (a' := ?_) ?_ ?_
  rotate_left
  · show Act.put _ (some 101) _ = _
    simp only [Act.put, List.setIfInBounds_toArray, List.set_cons_zero, List.set_cons_succ, i64_w, i32_w]
    rfl
  refine pure_ (i := 55) (N := some 102) (v := ?_) (a' := ?_) #[true, true, true, true, true, true, true, true, true, true, true, true, true, true, true, true, true, true, true, true, true, true, true, true, true, true, true, true, true, true, true, true, true, true, true, true, true, true, true, true, true, true, true, true, true, true, true, true, true, true, true, true, true, true, true, true, false, false, false, false] rfl rfl (by kernel_rfl) (fun _ _ _ h => h) (Or.inl ⟨by rfl, ?_⟩) ?_ ?_
  rotate_left
  · intro w'
    go_simp
    with_reducible rfl
  rotate_left
  · simp only [Act.put, List.setIfInBounds_toArray, List.set_cons_zero, List.set_cons_succ, i64_w, i32_w]
    rfl
  refine one_ (i := 56) (N := some 103) #[true, true, true, true, true, true, true, true, true, true, true, true, true, true, true, true, true, true, true, true, true, true, true, true, true, true, true, true, true, true, true, true, true, true, true, true, true, true, true, true, true, true, true, true, true, true, true, true, true, true, true, true, true, true, true, true, true, false, false, false] rfl rfl (by kernel_rfl) (by decide) (fun K hK => ?_)
  refine goes_ Try.func35 (by kernel_rfl) rfl #[.agg #[.slice (some ⟨lx, 0, none⟩) 1 1, .slice none 0 0]] (by rfl) rfl rfl (by simp only [List.map_toArray, List.map_cons, List.map_nil]; rfl) ?_
  with_reducible refine (show Calls Try.prog 35 #[.agg #[.slice (some ⟨lx, 0, none⟩) 1 1, .slice none 0 0]] w23 (fun e w' => e = .returned (.bool false) ∧ Below w23.heap.size w23 w') from ftype_May.calls 100 _ _ ([1] : List Int) _ _ ([] : List Int) false _ (C_row1 BX.out rfl rfl (by decide)) (Nat.le_refl _) (Kd.C_nil _ _) (Nat.le_refl _) (by decide +kernel)).mono ?_
  rintro e w24 ⟨rfl, hb⟩
  refine ⟨_, rfl, ?_⟩
  have HB24 : Aside0 (Below w16.heap.size w16 w24) := ⟨below_step (HB23.out) hb⟩
  clear hb
  refine hK.out _ _ ⟨pw_cell_below HB24.out z0, pw_cell_below HB24.out z1, pw_cell_below HB24.out z2, pw_cell_below HB24.out z3, pw_cell_below HB24.out z4⟩ (fun hHeld => ?_)
  clear hK K
  refine norm_ (a' := ?_) ?_ ?_
  rotate_left
  · show Act.put _ (some 103) _ = _
    simp only [Act.put, List.setIfInBounds_toArray, List.set_cons_zero, List.set_cons_succ, i64_w, i32_w]
    rfl
  refine pure_ (i := 57) (N := some 104) (v := ?_) (a' := ?_) #[true, true, true, true, true, true, true, true, true, true, true, true, true, true, true, true, true, true, true, true, true, true, true, true, true, true, true, true, true, true, true, true, true, true, true, true, true, true, true, true, true, true, true, true, true, true, true, true, true, true, true, true, true, true, true, true, true, true, false, false] rfl rfl (by kernel_rfl) (fun _ _ _ h => h) (Or.inl ⟨by rfl, ?_⟩) ?_ ?_
  rotate_left
  · intro w'
    go_simp
    with_reducible rfl
  rotate_left
  · simp only [Act.put, List.setIfInBounds_toArray, List.set_cons_zero, List.set_cons_succ, i64_w, i32_w]
    rfl
  refine pure_ (i := 58) (N := some 105) (v := ?_) (a' := ?_) #[true, true, true, true, true, true, true, true, true, true, true, true, true, true, true, true, true, true, true, true, true, true, true, true, true, true, true, true, true, true, true, true, true, true, true, true, true, true, true, true, true, true, true, true, true, true, true, true, true, true, true, true, true, true, true, true, true, true, true, false] rfl rfl (by kernel_rfl) (fun _ _ _ h => h) (Or.inl ⟨by rfl, ?_⟩) ?_ ?_
  rotate_left
  · intro w'
    go_simp
    with_reducible rfl
  rotate_left
  · simp only [Act.put, List.setIfInBounds_toArray, List.set_cons_zero, List.set_cons_succ, i64_w, i32_w]
    rfl
  refine pure_ (i := 59) (N := some 0) (v := ?_) (a' := ?_) #[true, true, true, true, true, true, true, true, true, true, true, true, true, true, true, true, true, true, true, true, true, true, true, true, true, true, true, true, true, true, true, true, true, true, true, true, true, true, true, true, true, true, true, true, true, true, true, true, true, true, true, true, true, true, true, true, true, true, true, true] rfl rfl (by kernel_rfl) (fun _ _ _ h => h) (Or.inl ⟨by rfl, ?_⟩) ?_ ?_
  rotate_left
  · intro w'
    go_simp
    with_reducible rfl
  rotate_left
  · simp only [Act.put, List.setIfInBounds_toArray, List.set_cons_zero, List.set_cons_succ, i64_w, i32_w]
    rfl
  refine done_ (by kernel_rfl) ?_

  try go_wp2
  go_ret
  exact ⟨rfl, below_step HB16.out HB24.out⟩
end Go.Proofs.Ytmofdpkddimmlaa.EFty
