/-
  InstrElse: the walk.
-/
import Derived.Test.YtbekfmeaeaghpaaD14G
namespace Go.Proofs.Ytbekfmeaeaghpaa.EInstr
open Go Go.RowKit Go.Proofs.Ytbekfmeaeaghpaa.F Go.Proofs.YtbekfmeaeaghpaaW.Hand Go.Proofs.YtbekfmeaeaghpaaW.PrintWords Go.Proofs.YtbekfmeaeaghpaaW.PrintLast Go.Proofs.YtbekfmeaeaghpaaW.PrintMore
open Go.Proofs.YtbekfmeaeaghpaaW.Byt
set_option linter.unusedVariables false
set_option linter.unusedSimpArgs false

def isE : List S44 := [⟨4, 0, 0, 0, 64, [], [⟨1, 0, 0, 0, 0, [], [], []⟩], []⟩]
theorem gE1 : pGet ⟨#[4, 64, 1, 5, 11, 11]⟩ 0 = .ok (isE, 6) := by kernel_rfl
theorem gE2 : pGet ⟨#[4, 64, 1, 11, 11]⟩ 0 = .ok (isE, 5) := by kernel_rfl
theorem gE3 : pGet (strOfNums [2, 64, 5, 11, 11]) 0 = .error 1403 := by kernel_rfl
theorem gE3' : pGet (strOfNums [3, 64, 5, 11, 11]) 0 = .error 1403 := by kernel_rfl
theorem gE4 : pGet ⟨#[5, 11]⟩ 0 = .error 1403 := by kernel_rfl
theorem gE5 : pGet ⟨#[4, 64, 5, 5, 11, 11]⟩ 0 = .error 1403 := by kernel_rfl
theorem preE : pre 0 isE = [(0, ⟨4, 0, 0, 0, 64, [], [⟨1, 0, 0, 0, 0, [], [], []⟩], []⟩), (1, ⟨1, 0, 0, 0, 0, [], [], []⟩)] := by simp [isE, pre_cons, pre_nil]
theorem mayE_ : mayE isE = 0 := by
  unfold mayE
  rw [preE]
  decide +kernel
theorem wfE : wf64 isE := by simp [isE, wf64_cons, wf64_nil]
theorem putE : putS isE = ⟨#[4, 64, 1, 11, 11]⟩ := by
  have : putL isE = [4, 64, 1, 11] := by
    simp only [isE, putL_cons, putL_nil, oneL]
    decide +kernel
  unfold putS
  rw [this]
  rfl
theorem else_at {W : World} {A : Option Addr} (h : k44.C W A 1 isE) : ∃ ad A7 c7, A = some ad ∧ W.cell? ⟨ad.block, ad.off + 7, none⟩ = some (.slice A7 0 c7) := by
  obtain ⟨ad, A5, c5, A6, c6, A7, c7, rfl, z0, z5, z6, z7, l5, C5⟩ := at_first h (by decide)
  exact ⟨ad, A7, c7, rfl, z7⟩
theorem row5 {W : World} {g : Nat} {a b c d e : Int} (h : W.heap[g]? = some (.cells #[.int .u8 a, .int .u8 b, .int .u8 c, .int .u8 d, .int .u8 e] 5 (0, 0))) : ∀ j, j < [a, b, c, d, e].length → W.cell? ⟨g, j, none⟩ = some (.int .u8 ([a, b, c, d, e].getD j 0)) := by
  intro j hj
  rw [blk_cell h j]
  match j, hj with
  | 0, _ => rfl
  | 1, _ => rfl
  | 2, _ => rfl
  | 3, _ => rfl
  | 4, _ => rfl
set_option maxHeartbeats 4000000 in
set_option maxRecDepth 100000 in
theorem else_2 {x : Int} (hx : Go.bits .and .i64 x 1 = 0) (W : World) : Calls Try.prog 11 #[.int .i64 x] W fun e w' => e = .returned (.bool true) ∧ Below W.heap.size W w' := by
  have B := Aside0.mk (Below.refl W.heap.size W)
  go_enter Try.func11, Try.ntmps11
  go_wp2_with (first
    | (go_at_call 20; (with_reducible refine (awake14_c _).mono ?_); rintro e w1 ⟨rfl, hb⟩;  replace B := Aside0.mk (below_step B.out hb);  clear hb)
    | (go_at_call 21; (with_reducible refine (get_ok gE1 rfl (by decide) _).mono ?_); rintro e w2 ⟨AX, cX, rfl, hC, hc, hb⟩;  replace B := Aside0.mk (below_step B.out hb); have X := Aside0.mk hC; have LX := Aside0.mk hc; clear hC hc; clear hb)
    | (go_at_call 21; (with_reducible refine (get_ok gE2 rfl (by decide) _).mono ?_); rintro e w3 ⟨AY, cY, rfl, hC, hc, hb⟩; replace X := Aside0.mk (Kd.C_below X.out hb); replace B := Aside0.mk (below_step B.out hb); have Y := Aside0.mk hC; have LY := Aside0.mk hc; clear hC hc; clear hb)
    | ((with_reducible refine gate_dst (N := 39) rfl ?_); refine lit_event ?hg (N := 39) ?hd (cs := #[.int .u8 2, .int .u8 64, .int .u8 5, .int .u8 11, .int .u8 11]) (t := 5) (n := 5) ?hr ?_; (case hd => rfl); (case hg => rfl); (case hr => first | (go_simp; done) | (go_simp; rfl)); intro gq hggq w4 hA hb; replace X := Aside0.mk (Kd.C_below X.out hb); replace Y := Aside0.mk (Kd.C_below Y.out hb); replace B := Aside0.mk (below_step B.out hb); have Q := Aside0.mk hA; clear hggq hA hb)
    | ((with_reducible refine gate_dst (N := 40) rfl ?_); refine string_event (g := gq) (n := 5) (c := 5) (ns := [2, 64, 5, 11, 11]) rfl rfl rfl rfl Try.underlying45 Try.underlying5 Try.underlying9 (row5 Q.out) ?_)
    | (go_at_call 21; (with_reducible refine (get_er gE3 (by decide) _).mono ?_); rintro e w5 ⟨rfl, hb⟩; replace X := Aside0.mk (Kd.C_below X.out hb); replace Y := Aside0.mk (Kd.C_below Y.out hb); replace Q := Aside0.mk (blk_below Q.out hb); replace B := Aside0.mk (below_step B.out hb);  clear hb)
    | (go_at_call 21; (with_reducible refine (get_er gE4 (by decide) _).mono ?_); rintro e w6 ⟨rfl, hb⟩; replace X := Aside0.mk (Kd.C_below X.out hb); replace Y := Aside0.mk (Kd.C_below Y.out hb); replace Q := Aside0.mk (blk_below Q.out hb); replace B := Aside0.mk (below_step B.out hb);  clear hb)
    | (go_at_call 21; (with_reducible refine (get_er gE5 (by decide) _).mono ?_); rintro e w7 ⟨rfl, hb⟩; replace X := Aside0.mk (Kd.C_below X.out hb); replace Y := Aside0.mk (Kd.C_below Y.out hb); replace Q := Aside0.mk (blk_below Q.out hb); replace B := Aside0.mk (below_step B.out hb);  clear hb)
    | (go_at_call 14; (with_reducible refine (put_ok X.out rfl LX.out wfE mayE_ putE).mono ?_); rintro e w8 ⟨rfl, hb⟩; replace X := Aside0.mk (Kd.C_below X.out hb); replace Y := Aside0.mk (Kd.C_below Y.out hb); replace Q := Aside0.mk (blk_below Q.out hb); replace B := Aside0.mk (below_step B.out hb);  clear hb)
    | (go_at_call 16; (with_reducible refine (num_c _ _).mono ?_); rintro e w' ⟨rfl, rfl⟩)
    | (go_at_call 19; (with_reducible refine (same_ok X.out Y.out rfl LX.out LY.out).mono ?_); rintro e w9 ⟨rfl, hb⟩; replace X := Aside0.mk (Kd.C_below X.out hb); replace Y := Aside0.mk (Kd.C_below Y.out hb); replace Q := Aside0.mk (blk_below Q.out hb); replace B := Aside0.mk (below_step B.out hb);  obtain ⟨ad, A7, c7, rfl, z7⟩ := else_at X.out; clear hb))
  go_ret
  exact ⟨rfl, B.out⟩
set_option maxHeartbeats 4000000 in
set_option maxRecDepth 100000 in
theorem else_3 {x : Int} (hx : Go.bits .and .i64 x 1 = 1) (W : World) : Calls Try.prog 11 #[.int .i64 x] W fun e w' => e = .returned (.bool true) ∧ Below W.heap.size W w' := by
  have B := Aside0.mk (Below.refl W.heap.size W)
  go_enter Try.func11, Try.ntmps11
  go_wp2_with (first
    | (go_at_call 20; (with_reducible refine (awake14_c _).mono ?_); rintro e w1 ⟨rfl, hb⟩;  replace B := Aside0.mk (below_step B.out hb);  clear hb)
    | (go_at_call 21; (with_reducible refine (get_ok gE1 rfl (by decide) _).mono ?_); rintro e w2 ⟨AX, cX, rfl, hC, hc, hb⟩;  replace B := Aside0.mk (below_step B.out hb); have X := Aside0.mk hC; have LX := Aside0.mk hc; clear hC hc; clear hb)
    | (go_at_call 21; (with_reducible refine (get_ok gE2 rfl (by decide) _).mono ?_); rintro e w3 ⟨AY, cY, rfl, hC, hc, hb⟩; replace X := Aside0.mk (Kd.C_below X.out hb); replace B := Aside0.mk (below_step B.out hb); have Y := Aside0.mk hC; have LY := Aside0.mk hc; clear hC hc; clear hb)
    | ((with_reducible refine gate_dst (N := 39) rfl ?_); refine lit_event ?hg (N := 39) ?hd (cs := #[.int .u8 3, .int .u8 64, .int .u8 5, .int .u8 11, .int .u8 11]) (t := 5) (n := 5) ?hr ?_; (case hd => rfl); (case hg => rfl); (case hr => first | (go_simp; done) | (go_simp; rfl)); intro gq hggq w4 hA hb; replace X := Aside0.mk (Kd.C_below X.out hb); replace Y := Aside0.mk (Kd.C_below Y.out hb); replace B := Aside0.mk (below_step B.out hb); have Q := Aside0.mk hA; clear hggq hA hb)
    | ((with_reducible refine gate_dst (N := 40) rfl ?_); refine string_event (g := gq) (n := 5) (c := 5) (ns := [3, 64, 5, 11, 11]) rfl rfl rfl rfl Try.underlying45 Try.underlying5 Try.underlying9 (row5 Q.out) ?_)
    | (go_at_call 21; (with_reducible refine (get_er gE3' (by decide) _).mono ?_); rintro e w5 ⟨rfl, hb⟩; replace X := Aside0.mk (Kd.C_below X.out hb); replace Y := Aside0.mk (Kd.C_below Y.out hb); replace Q := Aside0.mk (blk_below Q.out hb); replace B := Aside0.mk (below_step B.out hb);  clear hb)
    | (go_at_call 21; (with_reducible refine (get_er gE4 (by decide) _).mono ?_); rintro e w6 ⟨rfl, hb⟩; replace X := Aside0.mk (Kd.C_below X.out hb); replace Y := Aside0.mk (Kd.C_below Y.out hb); replace Q := Aside0.mk (blk_below Q.out hb); replace B := Aside0.mk (below_step B.out hb);  clear hb)
    | (go_at_call 21; (with_reducible refine (get_er gE5 (by decide) _).mono ?_); rintro e w7 ⟨rfl, hb⟩; replace X := Aside0.mk (Kd.C_below X.out hb); replace Y := Aside0.mk (Kd.C_below Y.out hb); replace Q := Aside0.mk (blk_below Q.out hb); replace B := Aside0.mk (below_step B.out hb);  clear hb)
    | (go_at_call 14; (with_reducible refine (put_ok X.out rfl LX.out wfE mayE_ putE).mono ?_); rintro e w8 ⟨rfl, hb⟩; replace X := Aside0.mk (Kd.C_below X.out hb); replace Y := Aside0.mk (Kd.C_below Y.out hb); replace Q := Aside0.mk (blk_below Q.out hb); replace B := Aside0.mk (below_step B.out hb);  clear hb)
    | (go_at_call 16; (with_reducible refine (num_c _ _).mono ?_); rintro e w' ⟨rfl, rfl⟩)
    | (go_at_call 19; (with_reducible refine (same_ok X.out Y.out rfl LX.out LY.out).mono ?_); rintro e w9 ⟨rfl, hb⟩; replace X := Aside0.mk (Kd.C_below X.out hb); replace Y := Aside0.mk (Kd.C_below Y.out hb); replace Q := Aside0.mk (blk_below Q.out hb); replace B := Aside0.mk (below_step B.out hb);  obtain ⟨ad, A7, c7, rfl, z7⟩ := else_at X.out; clear hb))
  go_ret
  exact ⟨rfl, B.out⟩
theorem else_calls (W : World) (x : Int) : Calls Try.prog 11 #[.int .i64 x] W fun e w' => e = .returned (.bool true) ∧ Below W.heap.size W w' := by
  have h := and_1 x
  rcases (show x % 2 = 0 ∨ x % 2 = 1 by omega) with h' | h'
  · exact else_2 (h.trans h') W
  · exact else_3 (h.trans h') W
end Go.Proofs.Ytbekfmeaeaghpaa.EInstr
