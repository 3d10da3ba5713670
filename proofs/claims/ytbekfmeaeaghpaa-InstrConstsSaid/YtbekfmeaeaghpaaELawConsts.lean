/-
  InstrConsts: the walk.
-/
import Derived.Test.YtbekfmeaeaghpaaD14G
namespace Go.Proofs.Ytbekfmeaeaghpaa.EInstr
open Go Go.RowKit Go.Proofs.Ytbekfmeaeaghpaa.F Go.Proofs.YtbekfmeaeaghpaaW.Hand Go.Proofs.YtbekfmeaeaghpaaW.PrintWords Go.Proofs.YtbekfmeaeaghpaaW.PrintLast Go.Proofs.YtbekfmeaeaghpaaW.PrintMore
open Go.Proofs.YtbekfmeaeaghpaaW.Byt
set_option linter.unusedVariables false
set_option linter.unusedSimpArgs false

def isC (x y : Int) : List S44 := [⟨65, 0, 0, y, 0, [], [], []⟩, ⟨66, 0, 0, x, 0, [], [], []⟩, ⟨67, 0, 0, y, 0, [], [], []⟩, ⟨68, 0, 0, x, 0, [], [], []⟩]
theorem step_ok {n d : Nat} {x : S44} (hk : ofF x.f0 ≠ 2) (hn : n ≤ 8192) (hm : mayB x = true) : stepE n (d, x) = 0 := by
  unfold stepE
  rw [if_neg (fun h => hk h.1), if_neg]
  rintro (h | h)
  · omega
  · rw [hm] at h
    cases h
theorem mayC_ (o v : Int) (ho : o = 65 ∨ o = 66 ∨ o = 67 ∨ o = 68) : mayB ⟨o, 0, 0, v, 0, [], [], []⟩ = (wideB o || u32B v) := by
  rcases ho with rfl | rfl | rfl | rfl <;> unfold mayB mayA mayC mayN mayT mayL mayI <;> simp [ofF, wideB]
theorem isC_may {x y : Int} (hy : 0 ≤ y ∧ y < 4294967296) : mayE (isC x y) = 0 := by
  have u : u32B y = true := by unfold u32B; simp; omega
  unfold mayE isC
  simp only [pre_cons, pre_nil, List.append_nil, List.nil_append, scanE_cons]
  have h1 : mayB ⟨65, 0, 0, y, 0, [], [], []⟩ = true := by rw [mayC_ _ _ (by omega), u]; simp
  have h2 : mayB ⟨66, 0, 0, x, 0, [], [], []⟩ = true := by rw [mayC_ _ _ (by omega)]; simp [wideB]
  have h3 : mayB ⟨67, 0, 0, y, 0, [], [], []⟩ = true := by rw [mayC_ _ _ (by omega), u]; simp
  have h4 : mayB ⟨68, 0, 0, x, 0, [], [], []⟩ = true := by rw [mayC_ _ _ (by omega)]; simp [wideB]
  rw [if_pos (step_ok (show ofF 65 ≠ 2 by decide) (by omega) h1), if_pos (step_ok (show ofF 66 ≠ 2 by decide) (by omega) h2), if_pos (step_ok (show ofF 67 ≠ 2 by decide) (by omega) h3), if_pos (step_ok (show ofF 68 ≠ 2 by decide) (by omega) h4)]
  rfl
theorem big_may {o v : Int} (ho : o = 65 ∨ o = 67) (hv : v < 0 ∨ 4294967296 ≤ v) : mayE [⟨o, 0, 0, v, 0, [], [], []⟩] = 1400 := by
  have h : mayB ⟨o, 0, 0, v, 0, [], [], []⟩ = false := by
    rw [mayC_ _ _ (by omega)]
    rcases ho with rfl | rfl <;> simp [wideB, u32B] <;> omega
  unfold mayE
  rw [pre_cons, scanE_cons]
  have : stepE (0 + 1) (0, (⟨o, 0, 0, v, 0, [], [], []⟩ : S44)) = 1400 := by
    unfold stepE
    rw [if_neg (fun h => by omega), if_pos (.inr h)]
  rw [if_neg (by rw [this]; decide), this]
theorem isC_wf {x y : Int} (hx : -9223372036854775808 ≤ x ∧ x < 9223372036854775808) (hy : 0 ≤ y ∧ y < 4294967296) : wf64 (isC x y) := by
  unfold isC
  simp only [wf64_cons, wf64_nil, and_true, true_and]
  omega
theorem c_four {W : World} {g : Nat} {x y : Int} (h : W.heap[g]? = some (.cells #[.int .i64 65, .int .i64 0, .int .i64 0, .int .i64 y, .int .i64 0, .slice none 0 0, .slice none 0 0, .slice none 0 0, .int .i64 66, .int .i64 0, .int .i64 0, .int .i64 x, .int .i64 0, .slice none 0 0, .slice none 0 0, .slice none 0 0, .int .i64 67, .int .i64 0, .int .i64 0, .int .i64 y, .int .i64 0, .slice none 0 0, .slice none 0 0, .slice none 0 0, .int .i64 68, .int .i64 0, .int .i64 0, .int .i64 x, .int .i64 0, .slice none 0 0, .slice none 0 0, .slice none 0 0] 44 (0, 0))) : k44.C W (some ⟨g, 0, none⟩) 4 (isC x y) :=
  c_reps (d := k44) (xs := isC x y) (inner := [.int .i64 65, .int .i64 0, .int .i64 0, .int .i64 y, .int .i64 0, .slice none 0 0, .slice none 0 0, .slice none 0 0, .int .i64 66, .int .i64 0, .int .i64 0, .int .i64 x, .int .i64 0, .slice none 0 0, .slice none 0 0, .slice none 0 0, .int .i64 67, .int .i64 0, .int .i64 0, .int .i64 y, .int .i64 0, .slice none 0 0, .slice none 0 0, .slice none 0 0, .int .i64 68, .int .i64 0, .int .i64 0, .int .i64 x, .int .i64 0, .slice none 0 0, .slice none 0 0, .slice none 0 0]) h (reps_cons rfl (k_leaf W 65 0 0 y 0) (reps_cons rfl (k_leaf W 66 0 0 x 0) (reps_cons rfl (k_leaf W 67 0 0 y 0) (reps_one rfl (k_leaf W 68 0 0 x 0))))) (by simp [isC])
theorem putS_small {is : List S44} (wf : wf64 is) (hm : mayE is = 0) : (putS is).size ≤ 84377601 := by
  have := putL_bound hm wf
  rw [putS_size]
  omega
set_option maxHeartbeats 4000000 in
set_option maxRecDepth 100000 in
theorem consts14_0 (W : World) (x y z1 z2 : Int) (hx : -9223372036854775808 ≤ x ∧ x < 9223372036854775808) (h0 : 0 ≤ y ∧ y < 4294967296) (hy : Go.bits .and .i64 x 4294967295 = y) (h1 : wrap64 (4294967296 + y) = z1) (h2 : wrap64 (-1 - y) = z2) : Calls Try.prog 9 #[.int .i64 x] W fun e w' => e = .returned (.bool true) ∧ Below W.heap.size W w' := by
  have B := Aside0.mk (Below.refl W.heap.size W)
  have WF := Aside0.mk (isC_wf hx h0)
  have MA := Aside0.mk (isC_may (x := x) h0)
  have HS := Aside0.mk (show (putS (isC x y)).size ≤ 1152921504606846976 by have := putS_small WF.out MA.out; omega)
  have M1 := Aside0.mk (big_may (o := 65) (v := z1) (.inl rfl) (by rw [← h1]; unfold wrap64; omega))
  have M2 := Aside0.mk (big_may (o := 67) (v := z2) (.inr rfl) (by rw [← h2]; unfold wrap64; omega))
  clear hx h0
  go_enter Try.func9, Try.ntmps9
  go_wp2_with (first
    | (go_at_call 20; (with_reducible refine (awake14_c _).mono ?_); rintro e w1 ⟨rfl, hb⟩;  replace B := Aside0.mk (below_step B.out hb);  clear hb)
    | ((with_reducible refine gate_dst (N := 26) rfl ?_); refine lit_event ?hg (N := 26) ?hd (cs := #[.int .i64 65, .int .i64 0, .int .i64 0, .int .i64 y, .int .i64 0, .slice none 0 0, .slice none 0 0, .slice none 0 0, .int .i64 66, .int .i64 0, .int .i64 0, .int .i64 x, .int .i64 0, .slice none 0 0, .slice none 0 0, .slice none 0 0, .int .i64 67, .int .i64 0, .int .i64 0, .int .i64 y, .int .i64 0, .slice none 0 0, .slice none 0 0, .slice none 0 0, .int .i64 68, .int .i64 0, .int .i64 0, .int .i64 x, .int .i64 0, .slice none 0 0, .slice none 0 0, .slice none 0 0]) (t := 44) (n := 4) ?hr ?_; (case hd => rfl); (case hg => rfl); (case hr => first | (go_simp; done) | (go_simp; rfl)); intro g2 hgg2 w2 hA hb;  replace B := Aside0.mk (below_step B.out hb); have P := Aside0.mk (c_four hA); clear hgg2 hA hb)
    | (go_at_call 14; (with_reducible refine (put_ok P.out rfl (Nat.le_refl _) WF.out MA.out rfl).mono ?_); rintro e w3 ⟨rfl, hb⟩; replace P := Aside0.mk (Kd.C_below P.out hb); replace B := Aside0.mk (below_step B.out hb);  clear hb)
    | (go_at_call 21; (with_reducible refine (get_ok (n := 4) (back_all WF.out MA.out) rfl HS.out _).mono ?_); rintro e w4 ⟨AX, cX, rfl, hC, hc, hb⟩; replace P := Aside0.mk (Kd.C_below P.out hb); replace B := Aside0.mk (below_step B.out hb); have X := Aside0.mk hC; have LX := Aside0.mk hc; clear hC hc; clear hb)
    | ((with_reducible refine gate_dst (N := 42) rfl ?_); refine lit_event ?hg (N := 42) ?hd (cs := #[.int .i64 65, .int .i64 0, .int .i64 0, .int .i64 z1, .int .i64 0, .slice none 0 0, .slice none 0 0, .slice none 0 0]) (t := 44) (n := 1) ?hr ?_; (case hd => rfl); (case hg => rfl); (case hr => first | (go_simp; done) | (go_simp; rfl)); intro g5 hgg5 w5 hA hb; replace P := Aside0.mk (Kd.C_below P.out hb); replace X := Aside0.mk (Kd.C_below X.out hb); replace B := Aside0.mk (below_step B.out hb); have Q := Aside0.mk (c_leaf hA); clear hgg5 hA hb)
    | (go_at_call 14; (with_reducible refine (put_er Q.out rfl (Nat.le_refl _) M1.out (by decide)).mono ?_); rintro e w6 ⟨rfl, hb⟩; replace P := Aside0.mk (Kd.C_below P.out hb); replace X := Aside0.mk (Kd.C_below X.out hb); replace Q := Aside0.mk (Kd.C_below Q.out hb); replace B := Aside0.mk (below_step B.out hb);  clear hb)
    | ((with_reducible refine gate_dst (N := 50) rfl ?_); refine lit_event ?hg (N := 50) ?hd (cs := #[.int .i64 67, .int .i64 0, .int .i64 0, .int .i64 z2, .int .i64 0, .slice none 0 0, .slice none 0 0, .slice none 0 0]) (t := 44) (n := 1) ?hr ?_; (case hd => rfl); (case hg => rfl); (case hr => first | (go_simp; done) | (go_simp; rfl)); intro g7 hgg7 w7 hA hb; replace P := Aside0.mk (Kd.C_below P.out hb); replace X := Aside0.mk (Kd.C_below X.out hb); replace Q := Aside0.mk (Kd.C_below Q.out hb); replace B := Aside0.mk (below_step B.out hb); have R := Aside0.mk (c_leaf hA); clear hgg7 hA hb)
    | (go_at_call 14; (with_reducible refine (put_er R.out rfl (Nat.le_refl _) M2.out (by decide)).mono ?_); rintro e w8 ⟨rfl, hb⟩; replace P := Aside0.mk (Kd.C_below P.out hb); replace X := Aside0.mk (Kd.C_below X.out hb); replace Q := Aside0.mk (Kd.C_below Q.out hb); replace R := Aside0.mk (Kd.C_below R.out hb); replace B := Aside0.mk (below_step B.out hb);  clear hb)
    | (go_at_call 16; (with_reducible refine (num_c _ _).mono ?_); rintro e w' ⟨rfl, rfl⟩)
    | (go_at_call 19; (with_reducible refine (same_ok X.out P.out rfl LX.out (Nat.le_refl _)).mono ?_); rintro e w9 ⟨rfl, hb⟩; replace P := Aside0.mk (Kd.C_below P.out hb); replace X := Aside0.mk (Kd.C_below X.out hb); replace Q := Aside0.mk (Kd.C_below Q.out hb); replace R := Aside0.mk (Kd.C_below R.out hb); replace B := Aside0.mk (below_step B.out hb);  clear hb))
  go_ret
  exact ⟨rfl, B.out⟩
theorem consts14_calls (W : World) {x : Int} (hx : -9223372036854775808 ≤ x ∧ x < 9223372036854775808) : Calls Try.prog 9 #[.int .i64 x] W fun e w' => e = .returned (.bool true) ∧ Below W.heap.size W w' :=
  consts14_0 W x (x % 4294967296) _ _ hx (by omega) (LebMath.and_mask x 32 (by omega) 4294967295 rfl) rfl rfl
end Go.Proofs.Ytbekfmeaeaghpaa.EInstr
