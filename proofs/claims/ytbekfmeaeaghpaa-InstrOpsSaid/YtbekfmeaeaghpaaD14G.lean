/-
  Instructions that a text writes down: how they read. awake of chapter 14. Get and Put where what they answer is known: for the laws. What Put lays is read by Get as it was; cut, it is told so: plain.
-/
import Derived.Test.YtbekfmeaeaghpaaFx0
import Derived.Test.YtbekfmeaeaghpaaD14C
import Derived.Test.YtbekfmeaeaghpaaD14F
import Derived.Test.YtbekfmeaeaghpaaD14E
import Derived.Test.YtbekfmeaeaghpaaD14H
import Derived.Test.YtbekfmeaeaghpaaD14A
import Derived.Test.YtbekfmeaeaghpaaD14B
namespace Go.Proofs.Ytbekfmeaeaghpaa.EInstr
open Go Go.RowKit Go.Proofs.Ytbekfmeaeaghpaa.F Go.Proofs.YtbekfmeaeaghpaaW.Hand Go.Proofs.YtbekfmeaeaghpaaW.PrintWords Go.Proofs.YtbekfmeaeaghpaaW.PrintLast Go.Proofs.YtbekfmeaeaghpaaW.PrintMore
set_option linter.unusedVariables false
set_option linter.unusedSimpArgs false
/-- A row that a block holds from its head on. -/
theorem c_reps {α : Type} {d : Kd α} {W : World} {g e : Nat} {fr : Nat × Nat} {xs : List α} {inner : List Value} (h : W.heap[g]? = some (.cells inner.toArray e fr)) (hr : Reps (d.K W) d.sz xs inner) (hl : xs.length ≤ 9223372036854775807) : d.C W (some ⟨g, 0, none⟩) xs.length xs := by
  refine ⟨rfl, hl, fun _ => ⟨⟨g, 0, none⟩, rfl, fun j p hj => ?_⟩⟩
  have hjl : j < xs.length := (List.getElem?_eq_some_iff.1 hj).1
  have h1 : j * d.sz + d.sz ≤ inner.length := by
    rw [hr.1, ← Nat.succ_mul]
    exact Nat.mul_le_mul_right _ hjl
  refine ⟨(inner.drop (j * d.sz)).take d.sz, by rw [List.length_take, List.length_drop]; omega, hr.2 j p hj, fun i u hu => ?_⟩
  have hi : i < d.sz := by
    have := (List.getElem?_eq_some_iff.1 hu).1
    rw [List.length_take] at this
    omega
  rw [List.getElem?_take_of_lt hi, List.getElem?_drop] at hu
  rw [add_plain]
  simp only [World.cell?, h]
  simpa using hu
theorem reps_one {α : Type} {R : α → List Value → Prop} {sz : Nat} {x : α} {cs : List Value} (hl : cs.length = sz) (h : R x cs) : Reps R sz [x] cs := by
  refine ⟨by simp [hl], fun j p hj => ?_⟩
  match j, hj with
  | 0, hj =>
    simp at hj
    subst hj
    subst hl
    simpa using h
theorem c_nil {α : Type} (d : Kd α) (W : World) : d.C W none 0 [] := ⟨rfl, by omega, fun h => absurd h (by omega)⟩
/-- An instruction without inner ones. -/
theorem k_leaf (W : World) (op a b bits ty : Int) : k44.K W ⟨op, a, b, bits, ty, [], [], []⟩ [.int .i64 op, .int .i64 a, .int .i64 b, .int .i64 bits, .int .i64 ty, .slice none 0 0, .slice none 0 0, .slice none 0 0] :=
  k44_mk W ⟨op, a, b, bits, ty, [], [], []⟩ (Nat.le_refl _) (c_nil _ W) (Nat.le_refl _) (c_nil _ W) (Nat.le_refl _) (c_nil _ W)
theorem c_leaf {W : World} {g : Nat} {op a b bits ty : Int} (h : W.heap[g]? = some (.cells #[.int .i64 op, .int .i64 a, .int .i64 b, .int .i64 bits, .int .i64 ty, .slice none 0 0, .slice none 0 0, .slice none 0 0] 44 (0, 0))) : k44.C W (some ⟨g, 0, none⟩) 1 [⟨op, a, b, bits, ty, [], [], []⟩] :=
  c_reps (d := k44) (xs := [(⟨op, a, b, bits, ty, [], [], []⟩ : S44)]) (inner := [.int .i64 op, .int .i64 a, .int .i64 b, .int .i64 bits, .int .i64 ty, .slice none 0 0, .slice none 0 0, .slice none 0 0]) h (reps_one rfl (k_leaf W op a b bits ty)) (by simp)
theorem c_block {W : World} {g : Nat} {op a b bits ty : Int} {body els : List S44} {A6 A7 : Option Addr} {c6 c7 : Nat} (h : W.heap[g]? = some (.cells #[.int .i64 op, .int .i64 a, .int .i64 b, .int .i64 bits, .int .i64 ty, .slice none 0 0, .slice A6 body.length c6, .slice A7 els.length c7] 44 (0, 0))) (l6 : body.length ≤ c6) (C6 : k44.C W A6 body.length body) (l7 : els.length ≤ c7) (C7 : k44.C W A7 els.length els) : k44.C W (some ⟨g, 0, none⟩) 1 [⟨op, a, b, bits, ty, [], body, els⟩] :=
  c_reps (d := k44) (xs := [(⟨op, a, b, bits, ty, [], body, els⟩ : S44)]) (inner := [.int .i64 op, .int .i64 a, .int .i64 b, .int .i64 bits, .int .i64 ty, .slice none 0 0, .slice A6 body.length c6, .slice A7 els.length c7]) h (reps_one rfl (k44_mk W ⟨op, a, b, bits, ty, [], body, els⟩ (Nat.le_refl _) (c_nil _ W) l6 C6 l7 C7)) (by simp)
/-! #### the texts of awake -/
def isA : List S44 := [⟨4, 0, 0, 0, 127, [], [⟨65, 0, 0, 4294967295, 0, [], [], []⟩], [⟨32, 3, 0, 0, 0, [], [], []⟩]⟩]
theorem preA : pre 0 isA = [(0, ⟨4, 0, 0, 0, 127, [], [⟨65, 0, 0, 4294967295, 0, [], [], []⟩], [⟨32, 3, 0, 0, 0, [], [], []⟩]⟩), (1, ⟨65, 0, 0, 4294967295, 0, [], [], []⟩), (1, ⟨32, 3, 0, 0, 0, [], [], []⟩)] := by
  simp [isA, pre_cons, pre_nil]
theorem mayA_ : mayE isA = 0 := by
  unfold mayE
  rw [preA]
  decide +kernel
theorem countA : countF isA = 3 := by
  unfold countF
  rw [preA]
  rfl
theorem wfA : wf64 isA := by simp [isA, wf64_cons, wf64_nil]
theorem putA : putS isA = ⟨#[4, 127, 65, 127, 5, 32, 3, 11, 11]⟩ := by
  have : putL isA = [4, 127, 65, 127, 5, 32, 3, 11] := by
    simp only [isA, putL_cons, putL_nil, oneL]
    decide +kernel
  unfold putS
  rw [this]
  rfl
theorem getA : pGet ⟨#[122, 4, 127, 65, 127, 5, 32, 3, 11, 11, 122]⟩ 1 = .ok (isA, 10) := by kernel_rfl
theorem getB : pGet ⟨#[6]⟩ 0 = .error 1403 := by kernel_rfl
theorem mayB6 : mayE [⟨6, 0, 0, 0, 0, [], [], []⟩] = 1400 := by
  unfold mayE
  simp only [pre_cons, pre_nil]
  decide +kernel
end Go.Proofs.Ytbekfmeaeaghpaa.EInstr
namespace Go.Proofs.Ytbekfmeaeaghpaa.EInstr
open Go Go.RowKit Go.Proofs.Ytbekfmeaeaghpaa.F Go.Proofs.YtbekfmeaeaghpaaW.Hand Go.Proofs.YtbekfmeaeaghpaaW.PrintWords Go.Proofs.YtbekfmeaeaghpaaW.PrintLast Go.Proofs.YtbekfmeaeaghpaaW.PrintMore
open Go.Proofs.Ytbekfmeaeaghpaa.LebGets (G)
open Go.Proofs.Ytbekfmeaeaghpaa.LebGetS (GS)
set_option linter.unusedVariables false
set_option linter.unusedSimpArgs false

theorem litA {W : World} {g g1 g2 : Nat} (h : W.heap[g]? = some (.cells #[.int .i64 4, .int .i64 0, .int .i64 0, .int .i64 0, .int .i64 127, .slice none 0 0, .slice (some ⟨g1, 0, none⟩) 1 1, .slice (some ⟨g2, 0, none⟩) 1 1] 44 (0, 0))) (C6 : k44.C W (some ⟨g1, 0, none⟩) 1 [⟨65, 0, 0, 4294967295, 0, [], [], []⟩]) (C7 : k44.C W (some ⟨g2, 0, none⟩) 1 [⟨32, 3, 0, 0, 0, [], [], []⟩]) : k44.C W (some ⟨g, 0, none⟩) 1 isA :=
  c_block (body := [⟨65, 0, 0, 4294967295, 0, [], [], []⟩]) (els := [⟨32, 3, 0, 0, 0, [], [], []⟩]) h (Nat.le_refl _) C6 (Nat.le_refl _) C7
theorem putA_c {W : World} {A : Option Addr} (h : k44.C W A 1 isA) : Calls Try.prog 14 #[.slice A 1 1] W fun e w' => e = .returned (.tuple #[.string ⟨#[4, 127, 65, 127, 5, 32, 3, 11, 11]⟩, .int .i64 0]) ∧ Below W.heap.size W w' := by
  have := put_yes (c := 1) h (Nat.le_refl _) wfA mayA_
  rw [putA] at this
  exact this
theorem putB_c {W : World} {A : Option Addr} (h : k44.C W A 1 [⟨6, 0, 0, 0, 0, [], [], []⟩]) : Calls Try.prog 14 #[.slice A 1 1] W fun e w' => e = .returned (.tuple #[.string ByteArray.empty, .int .i64 1400]) ∧ Below W.heap.size W w' := by
  have := put_no (c := 1) h (Nat.le_refl _) (by rw [mayB6]; decide)
  rw [mayB6] at this
  exact this
theorem getA_c (W : World) : Calls Try.prog 21 #[.string ((⟨#[122]⟩ : ByteArray) ++ ⟨#[4, 127, 65, 127, 5, 32, 3, 11, 11]⟩ ++ ⟨#[122]⟩), .int .i64 1] W fun e w' => ∃ A c, e = .returned (.tuple #[.slice A 1 c, .int .i64 10, .int .i64 0]) ∧ k44.C w' A 1 isA ∧ 1 ≤ c ∧ Below W.heap.size W w' := by
  rw [show (⟨#[122]⟩ : ByteArray) ++ ⟨#[4, 127, 65, 127, 5, 32, 3, 11, 11]⟩ ++ ⟨#[122]⟩ = ⟨#[122, 4, 127, 65, 127, 5, 32, 3, 11, 11, 122]⟩ by decide +kernel]
  have := get_calls (s := ⟨#[122, 4, 127, 65, 127, 5, 32, 3, 11, 11, 122]⟩) (a := 1) (W := W) (by decide)
  rw [getA] at this
  refine this.mono ?_
  rintro e w' ⟨A, c, rfl, hR, hb⟩
  obtain ⟨A', c', he, hl, hC⟩ := Kd.R_reads hR
  injection he with h1 h2 h3
  subst h1; subst h3
  exact ⟨A, c, rfl, hC, hl, hb⟩
theorem getB_c (W : World) : Calls Try.prog 21 #[.string ⟨#[6]⟩, .int .i64 0] W fun e w' => e = .returned (.tuple #[.slice none 0 0, .int .i64 0, .int .i64 1403]) ∧ Below W.heap.size W w' := by
  have := get_calls (s := ⟨#[6]⟩) (a := 0) (W := W) (by decide)
  rw [getB] at this
  exact this
theorem sameA_c {W : World} {A B : Option Addr} {c : Nat} (h : k44.C W A 1 isA) (hc : 1 ≤ c) (h2 : k44.C W B 1 isA) : Calls Try.prog 19 #[.slice A 1 c, .slice B 1 1] W fun e w' => e = .returned (.bool true) ∧ Below W.heap.size W w' :=
  ESame.same_size _ isA (Nat.le_refl _) W h hc h2 (Nat.le_refl _)
theorem countA_c {W : World} {A : Option Addr} (h : k44.C W A 1 isA) : Calls Try.prog 17 #[.slice A 1 1] W fun e w' => e = .returned (.int .i64 3) ∧ Below W.heap.size W w' := by
  have := count_calls W isA A 1 h (Nat.le_refl _)
  rw [countA] at this
  exact this
theorem num_c (e : Int) (w : World) : Calls Try.prog 16 #[.int .i64 e] w fun r w' => r = .returned (.int .i64 e) ∧ w = w' := by
  go_enter Try.func16, Try.ntmps16
  go_wp2
  go_ret
  exact ⟨rfl, rfl⟩
set_option maxHeartbeats 4000000 in
set_option maxRecDepth 100000 in
theorem awake14_c (W : World) : Calls Try.prog 20 #[] W fun e w' => e = .returned (.bool true) ∧ Below W.heap.size W w' := by
  go_enter Try.func20, Try.ntmps20
  go_wp2_with (first
    | ((with_reducible refine gate_dst (N := 13) rfl ?_); refine lit_event ?hg (N := 13) ?hd (cs := #[.int .i64 65, .int .i64 0, .int .i64 0, .int .i64 4294967295, .int .i64 0, .slice none 0 0, .slice none 0 0, .slice none 0 0]) (t := 44) (n := 1) ?hr ?_; (case hd => rfl); (case hg => rfl); (case hr => first | (go_simp; done) | (go_simp; rfl)); intro g1 hgg1 w1 hA hb; have C1 := Aside0.mk (c_leaf hA); have B1 := Aside0.mk hb; clear hgg1 hA hb)
    | ((with_reducible refine gate_dst (N := 15) rfl ?_); refine lit_event ?hg (N := 15) ?hd (cs := #[.int .i64 32, .int .i64 3, .int .i64 0, .int .i64 0, .int .i64 0, .slice none 0 0, .slice none 0 0, .slice none 0 0]) (t := 44) (n := 1) ?hr ?_; (case hd => rfl); (case hg => rfl); (case hr => first | (go_simp; done) | (go_simp; rfl)); intro g2 hgg2 w2 hA hb; have C2 := Aside0.mk (c_leaf hA); have D1 := Aside0.mk (Kd.C_below C1.out hb); have B2 := Aside0.mk (below_step B1.out hb); clear hgg2 hA hb C1 B1)
    | ((with_reducible refine gate_dst (N := 17) rfl ?_); refine lit_event ?hg (N := 17) ?hd (cs := #[.int .i64 4, .int .i64 0, .int .i64 0, .int .i64 0, .int .i64 127, .slice none 0 0, .slice (some ⟨g1, 0, none⟩) 1 1, .slice (some ⟨g2, 0, none⟩) 1 1]) (t := 44) (n := 1) ?hr ?_; (case hd => rfl); (case hg => rfl); (case hr => first | (go_simp; done) | (go_simp; rfl)); intro g3 hgg3 w3 hA hb; have C3 : Aside0 (k44.C w3 (some ⟨g3, 0, none⟩) 1 isA) := ⟨litA hA (Kd.C_below D1.out hb) (Kd.C_below C2.out hb)⟩; have B3 := Aside0.mk (below_step B2.out hb); clear hgg3 hA hb D1 C2 B2)
    | (go_at_call 14; (with_reducible refine (putA_c C3.out).mono ?_); rintro e w4 ⟨rfl, hb⟩; have C4 := Aside0.mk (Kd.C_below C3.out hb); have B4 := Aside0.mk (below_step B3.out hb); clear hb C3 B3)
    | (go_at_call 21; (with_reducible refine (getA_c _).mono ?_); rintro e w5 ⟨A5, c5, rfl, hC, hc, hb⟩; have G5 := Aside0.mk hC; have L5 := Aside0.mk hc; have C5 := Aside0.mk (Kd.C_below C4.out hb); have B5 := Aside0.mk (below_step B4.out hb); clear hb hC hc C4 B4)
    | (go_at_call 21; (with_reducible refine (getB_c _).mono ?_); rintro e w6 ⟨rfl, hb⟩; have G6 := Aside0.mk (Kd.C_below G5.out hb); have C6 := Aside0.mk (Kd.C_below C5.out hb); have B6 := Aside0.mk (below_step B5.out hb); clear hb G5 C5 B5)
    | ((with_reducible refine gate_dst (N := 38) rfl ?_); refine lit_event ?hg (N := 38) ?hd (cs := #[.int .i64 6, .int .i64 0, .int .i64 0, .int .i64 0, .int .i64 0, .slice none 0 0, .slice none 0 0, .slice none 0 0]) (t := 44) (n := 1) ?hr ?_; (case hd => rfl); (case hg => rfl); (case hr => first | (go_simp; done) | (go_simp; rfl)); intro g7 hgg7 w7 hA hb; have C8 := Aside0.mk (c_leaf hA); have G7 := Aside0.mk (Kd.C_below G6.out hb); have C7 := Aside0.mk (Kd.C_below C6.out hb); have B7 := Aside0.mk (below_step B6.out hb); clear hgg7 hA hb G6 C6 B6)
    | (go_at_call 14; (with_reducible refine (putB_c C8.out).mono ?_); rintro e w8 ⟨rfl, hb⟩; have G8 := Aside0.mk (Kd.C_below G7.out hb); have C9 := Aside0.mk (Kd.C_below C7.out hb); have B8 := Aside0.mk (below_step B7.out hb); clear hb G7 C7 B7 C8)
    | (go_at_call 16; (with_reducible refine (num_c _ _).mono ?_); rintro e w9 ⟨rfl, rfl⟩)
    | (go_at_call 19; (with_reducible refine (sameA_c G8.out L5.out C9.out).mono ?_); rintro e w9 ⟨rfl, hb⟩; have C10 := Aside0.mk (Kd.C_below C9.out hb); have B9 := Aside0.mk (below_step B8.out hb); clear hb G8 C9 B8)
    | (go_at_call 17; (with_reducible refine (countA_c C10.out).mono ?_); rintro e w10 ⟨rfl, hb⟩; have B10 := Aside0.mk (below_step B9.out hb); clear hb))
  go_ret
  exact ⟨rfl, B10.out⟩
end Go.Proofs.Ytbekfmeaeaghpaa.EInstr
namespace Go.Proofs.Ytbekfmeaeaghpaa.EInstr
open Go Go.RowKit Go.Proofs.Ytbekfmeaeaghpaa.F Go.Proofs.YtbekfmeaeaghpaaW.Hand Go.Proofs.YtbekfmeaeaghpaaW.PrintWords Go.Proofs.YtbekfmeaeaghpaaW.PrintLast Go.Proofs.YtbekfmeaeaghpaaW.PrintMore
open Go.Proofs.YtbekfmeaeaghpaaW.Byt
set_option linter.unusedVariables false
set_option linter.unusedSimpArgs false
theorem get_ok {s : ByteArray} {a a1 : Int} {is : List S44} {n : Nat} (h : pGet s a = .ok (is, a1)) (hn : is.length = n) (hs : s.size ≤ 1152921504606846976) (W : World) : Calls Try.prog 21 #[.string s, .int .i64 a] W fun e w' => ∃ A c, e = .returned (.tuple #[.slice A n c, .int .i64 a1, .int .i64 0]) ∧ k44.C w' A n is ∧ n ≤ c ∧ Below W.heap.size W w' := by
  have := get_calls (a := a) (W := W) hs
  rw [h] at this
  refine this.mono ?_
  rintro e w' ⟨A, c, rfl, hR, hb⟩
  obtain ⟨A', c', he, hl, hC⟩ := Kd.R_reads hR
  injection he with h1 h2 h3
  subst h1; subst h3
  subst hn
  exact ⟨A, c, rfl, hC, hl, hb⟩
theorem get_er {s : ByteArray} {a c : Int} (h : pGet s a = .error c) (hs : s.size ≤ 1152921504606846976) (W : World) : Calls Try.prog 21 #[.string s, .int .i64 a] W fun e w' => e = .returned (.tuple #[.slice none 0 0, .int .i64 0, .int .i64 c]) ∧ Below W.heap.size W w' := by
  have := get_calls (a := a) (W := W) hs
  rw [h] at this
  exact this
theorem put_ok {W : World} {is : List S44} {A : Option Addr} {n c : Nat} {S : ByteArray} (hC : k44.C W A n is) (hn : is.length = n) (hc : n ≤ c) (wf : wf64 is) (hm : mayE is = 0) (hS : putS is = S) :
    Calls Try.prog 14 #[.slice A n c] W fun e w' => e = .returned (.tuple #[.string S, .int .i64 0]) ∧ Below W.heap.size W w' := by
  subst hn
  subst hS
  exact put_yes hC hc wf hm
theorem put_er {W : World} {is : List S44} {A : Option Addr} {n c : Nat} {r : Int} (hC : k44.C W A n is) (hn : is.length = n) (hc : n ≤ c) (hm : mayE is = r) (hr : r ≠ 0) :
    Calls Try.prog 14 #[.slice A n c] W fun e w' => e = .returned (.tuple #[.string ByteArray.empty, .int .i64 r]) ∧ Below W.heap.size W w' := by
  subst hn
  subst hm
  exact put_no hC hc hr
theorem same_ok {W : World} {is : List S44} {A B : Option Addr} {n c d : Nat} (hA : k44.C W A n is) (hB : k44.C W B n is) (hn : is.length = n) (hc : n ≤ c) (hd : n ≤ d) :
    Calls Try.prog 19 #[.slice A n c, .slice B n d] W fun e w' => e = .returned (.bool true) ∧ Below W.heap.size W w' := by
  subst hn
  exact ESame.same_size _ is (Nat.le_refl _) W hA hc hB hd
end Go.Proofs.Ytbekfmeaeaghpaa.EInstr
namespace Go.Proofs.Ytbekfmeaeaghpaa.EInstr
open Go Go.RowKit Go.Proofs.Ytbekfmeaeaghpaa.F Go.Proofs.YtbekfmeaeaghpaaW.Hand Go.Proofs.YtbekfmeaeaghpaaW.PrintWords Go.Proofs.YtbekfmeaeaghpaaW.PrintLast Go.Proofs.YtbekfmeaeaghpaaW.PrintMore
open Go.Proofs.Ytbekfmeaeaghpaa.LebMath (u64_eq wrap64_eq T scan scan_cut or_i64 wrap64_mod)
open Go.Proofs.Ytbekfmeaeaghpaa.LebFns (byt Fit mo)
open Go.Proofs.Ytbekfmeaeaghpaa.LebGets (G G_err mod_wrap)
open Go.Proofs.Ytbekfmeaeaghpaa.LebGetS (GS GS_err)
open Go.Proofs.Ytbekfmeaeaghpaa.LebBacks (nth nth_cons nth_zero nth_out USpec SSpec At get_u gets_s len_u32 len_s32 bt_append bt_str size_str)
set_option linter.unusedVariables false
set_option linter.unusedSimpArgs false
/-- The bytes ds stand in s from a on, as far as s goes. -/
def PAt (s : ByteArray) (a : Int) (ds : List Int) : Prop := 0 ≤ a ∧ a ≤ s.size ∧ s.size ≤ 1152921504606846976 ∧ ∀ i : Nat, i < ds.length → a + i < s.size → byt s a i = nth ds i
/-- What a reader answers: v if the bytes are whole, else that they are cut. -/
def Rd {α : Type} (s : ByteArray) (a : Int) (n : Nat) (r : Except Int α) (v : α) : Prop := (a + n ≤ s.size → r = .ok v) ∧ (¬ a + n ≤ s.size → r = .error 1401)
theorem nth_app_l {xs ds : List Int} {i : Nat} (h : i < xs.length) : nth (xs ++ ds) i = nth xs i := by
  simp [nth, List.getD_eq_getElem?_getD, List.getElem?_append_left h]
theorem nth_app_r (xs ds : List Int) (i : Nat) : nth (xs ++ ds) (xs.length + i) = nth ds i := by
  simp [nth, List.getD_eq_getElem?_getD, List.getElem?_append_right]
theorem PAt.left {s : ByteArray} {a : Int} {xs ds : List Int} (h : PAt s a (xs ++ ds)) : PAt s a xs :=
  ⟨h.1, h.2.1, h.2.2.1, fun i hi hs => by rw [h.2.2.2 i (by simp; omega) hs, nth_app_l hi]⟩
theorem PAt.right {s : ByteArray} {a : Int} {xs ds : List Int} (h : PAt s a (xs ++ ds)) (hs : a + xs.length ≤ s.size) : PAt s (a + xs.length) ds :=
  ⟨by have := h.1; omega, hs, h.2.2.1, fun i hi hs2 => by
    have := h.2.2.2 (xs.length + i) (by simp; omega) (by omega)
    rw [nth_app_r] at this
    rw [← this]
    unfold byt
    congr 1
    omega⟩
theorem PAt.at {s : ByteArray} {a : Int} {ds : List Int} (h : PAt s a ds) (hs : a + ds.length ≤ s.size) : At s a ds :=
  ⟨h.1, hs, h.2.2.1, fun i hi => h.2.2.2 i hi (by omega)⟩
theorem PAt.tail {s : ByteArray} {a c : Int} {ds : List Int} (h : PAt s a (c :: ds)) (hs : a + 1 ≤ s.size) : PAt s (a + 1) ds := PAt.right (xs := [c]) h hs
theorem PAt.congr {s : ByteArray} {a b : Int} {ds es : List Int} (h : PAt s a ds) (ha : a = b) (hd : ds = es) : PAt s b es := by subst ha; subst hd; exact h
theorem byte_rd {s : ByteArray} {a c : Int} {ds : List Int} (h : PAt s a (c :: ds)) : Rd s a 1 (pByte s a) (c, a + 1) := by
  constructor
  · intro hs
    unfold pByte
    rw [if_pos (by omega)]
    have := h.2.2.2 0 (by simp) (by omega)
    rw [nth_zero] at this
    unfold byt at this
    rw [show a + ((0 : Nat) : Int) = a by omega] at this
    rw [this]
  · intro hs
    unfold pByte
    rw [if_neg (by omega)]
theorem u_rd {s : ByteArray} {a x : Int} {ds : List Int} (h : PAt s a (uB x ++ ds)) (h0 : 0 ≤ x) (h1 : x < 4294967296) : Rd s a (uB x).length (pU32 s a) (x, a + (uB x).length) := by
  obtain ⟨hu, hl⟩ := uB_spec x
  rw [Int.emod_eq_of_lt h0 (by omega)] at hu
  have h5 := len_u32 hu h1
  have hp := h.left
  have hm : mo 32 = 5 := rfl
  constructor
  · intro hs
    unfold pU32
    rw [get_u (hp.at hs) hu (.inl ⟨rfl, h1⟩) h5]
    unfold pNum
    rw [if_pos rfl, wrap64_eq (by omega) (by omega)]
  · intro hs
    have hf : Fit s a 32 := ⟨.inl rfl, hp.1, hp.2.1, hp.2.2.1⟩
    have hsz := hp.2.1
    have hsc : scan (byt s a) ((s.size : Int) - a).toNat (mo 32) 0 = (0, 1201) := scan_cut _ _ _ _ (by omega) (by omega) (fun j _ hj => by
      rw [hp.2.2.2 j (by omega) (by omega)]
      exact hu.more j (by omega))
    unfold pU32
    rw [G_err hf (by rw [hsc]; simp), hsc]
    rfl
theorem s_rd {s : ByteArray} {a x b : Int} {ds : List Int} (h : PAt s a (sB x ++ ds)) (hb : b = 32 ∧ -2147483648 ≤ x ∧ x < 2147483648 ∨ b = 64 ∧ -9223372036854775808 ≤ x ∧ x < 9223372036854775808) : Rd s a (sB x).length (pNum (GS s a b)) (x, a + (sB x).length) := by
  obtain ⟨hu, hl⟩ := sB_spec x (by omega) (by omega)
  have hp := h.left
  have h5 : (sB x).length ≤ mo b := by
    rcases hb with ⟨rfl, hb⟩ | ⟨rfl, hb⟩
    · exact len_s32 hu hb
    · exact hl
  constructor
  · intro hs
    rw [gets_s (hp.at hs) hu hb h5]
    unfold pNum
    rw [if_pos rfl]
  · intro hs
    have hf : Fit s a b := ⟨by omega, hp.1, hp.2.1, hp.2.2.1⟩
    have hsz := hp.2.1
    have hsc : scan (byt s a) ((s.size : Int) - a).toNat (mo b) 0 = (0, 1201) := scan_cut _ _ _ _ (by omega) (by omega) (fun j _ hj => by
      rw [hp.2.2.2 j (by omega) (by omega)]
      exact hu.more j (by omega))
    rw [GS_err hf (by rw [hsc]; simp), hsc]
    rfl
theorem ints_rd {s : ByteArray} : ∀ (l : List Int) (a : Int) (ds : List Int), PAt s a (l.flatMap uB ++ ds) → (∀ x ∈ l, 0 ≤ x ∧ x < 4294967296) → Rd s a (l.flatMap uB).length (pInts s l.length a) (l, a + (l.flatMap uB).length)
  | [], a, ds, h, hx => by
    have h1 := h.2.1
    refine ⟨fun _ => by simp [pInts], fun hs => ?_⟩
    simp at hs
    omega
  | x :: l, a, ds, h, hx => by
    have hx1 := hx x (by simp)
    rw [List.flatMap_cons, List.append_assoc] at h
    have r1 := u_rd h hx1.1 hx1.2
    simp only [List.flatMap_cons, List.length_append, List.length_cons]
    by_cases hc : a + (uB x).length ≤ s.size
    · have r2 := ints_rd l _ ds (h.right hc) (fun y hy => hx y (by simp [hy]))
      rw [Rd, pInts, r1.1 hc]
      simp only
      constructor
      · intro hs
        rw [r2.1 (by omega)]
        simp only [Except.ok.injEq, Prod.mk.injEq, true_and]
        omega
      · intro hs
        rw [r2.2 (by omega)]
    · rw [Rd, pInts, r1.2 hc]
      exact ⟨fun hs => by omega, fun _ => rfl⟩
theorem labels_rd {s : ByteArray} {a : Int} {l ds : List Int} (h : PAt s a (uB ((l.length : Int) - 1) ++ l.flatMap uB ++ ds)) (h1 : 1 ≤ l.length) (h2 : l.length ≤ 1024) (hx : ∀ x ∈ l, 0 ≤ x ∧ x < 4294967296) :
    Rd s a (uB ((l.length : Int) - 1) ++ l.flatMap uB).length (pLabels s a) (l, a + (uB ((l.length : Int) - 1) ++ l.flatMap uB).length) := by
  rw [List.append_assoc] at h
  have r1 := u_rd h (by omega) (by omega)
  rw [List.length_append]
  by_cases hc : a + (uB ((l.length : Int) - 1)).length ≤ s.size
  · have r2 := ints_rd l _ ds (h.right hc) hx
    rw [Rd, pLabels, r1.1 hc]
    simp only
    rw [if_neg (by omega), show ((l.length : Int) - 1).toNat + 1 = l.length by omega]
    constructor
    · intro hs
      rw [r2.1 (by omega)]
      simp only [Except.ok.injEq, Prod.mk.injEq, true_and]
      omega
    · intro hs
      rw [r2.2 (by omega)]
  · rw [Rd, pLabels, r1.2 hc]
    exact ⟨fun hs => by omega, fun _ => rfl⟩
theorem lowB_len' (x : Int) : ∀ k i, (lowB x k i).length = k
  | 0, _ => rfl
  | k + 1, i => by simp [lowB, lowB_len' x k (i + 1)]
theorem split256 (x a : Int) (ha : 0 < a) : x % (a * 256) = x / a % 256 * a + x % a := by
  have h0 := Int.emod_nonneg x (show a ≠ 0 by omega)
  have h1 := Int.emod_lt_of_pos x ha
  have h2 : 0 ≤ x / a % 256 ∧ x / a % 256 ≤ 255 := by omega
  have h3 : x / a % 256 * a ≤ 255 * a := Int.mul_le_mul_of_nonneg_right h2.2 (by omega)
  have h4 : 0 ≤ x / a % 256 * a := Int.mul_nonneg h2.1 (by omega)
  have e : x = (x / a % 256 * a + x % a) + a * 256 * (x / a / 256) := by
    have e1 : x / a % 256 + 256 * (x / a / 256) = x / a := Int.emod_add_mul_ediv _ _
    have e2 : x % a + a * (x / a) = x := Int.emod_add_mul_ediv _ _
    have e3 : a * (x / a) = x / a % 256 * a + a * 256 * (x / a / 256) := by
      conv => lhs; rw [← e1]
      rw [Int.mul_add, Int.mul_comm a (x / a % 256), Int.mul_assoc]
    omega
  conv => lhs; rw [e]
  rw [Int.add_mul_emod_self_left]
  exact Int.emod_eq_of_lt (by omega) (by omega)
theorem low_or (x : Int) (i : Nat) (hi : i ≤ 7) : Go.bits .or .i64 (wrap64 (x % 2 ^ (8 * i))) (wrap64 (x / 2 ^ (8 * i) % 256 * 2 ^ (8 * i))) = wrap64 (x % 2 ^ (8 * (i + 1))) := by
  have hp : (0 : Int) < 2 ^ (8 * i) := Int.pow_pos (by omega)
  have hlt : (2 : Int) ^ (8 * i) ≤ 2 ^ 56 := by
    have : (2 : Nat) ^ (8 * i) ≤ 2 ^ 56 := Nat.pow_le_pow_right (by omega) (by omega)
    exact_mod_cast this
  have h0 : 0 ≤ x % 2 ^ (8 * i) := Int.emod_nonneg _ (by omega)
  have h1 : x % 2 ^ (8 * i) < 2 ^ (8 * i) := Int.emod_lt_of_pos _ hp
  have hc : ((2 ^ (8 * i) : Nat) : Int) = 2 ^ (8 * i) := by push_cast; rfl
  have e1 : wrap64 (x % 2 ^ (8 * i)) = x % 2 ^ (8 * i) := wrap64_eq (by omega) (by have h56 : (2 : Int) ^ 56 = 72057594037927936 := (by decide); omega)
  rw [e1, LebMath.bor_comm, or_i64 _ _ (8 * i) (by omega) (by rw [mod_wrap _ _ (by omega), hc]; exact Int.mul_emod_left _ _) h0 (by rw [hc]; exact h1)]
  have e2 : x % 2 ^ (8 * (i + 1)) = x / 2 ^ (8 * i) % 256 * 2 ^ (8 * i) + x % 2 ^ (8 * i) := by
    rw [show 8 * (i + 1) = 8 * i + 8 by omega, Int.pow_add, show (2 : Int) ^ 8 = 256 by decide]
    exact split256 x _ hp
  rw [e2]
  obtain ⟨q, hq⟩ := wrap64_mod (x / 2 ^ (8 * i) % 256 * 2 ^ (8 * i))
  rw [hq]
  unfold wrap64
  omega
theorem low_rd {s : ByteArray} (x : Int) : ∀ (k i : Nat) (a : Int) (ds : List Int), i + k ≤ 8 → PAt s a (lowB x k i ++ ds) → Rd s a k (pLow s k i (wrap64 (x % 2 ^ (8 * i))) a) (wrap64 (x % 2 ^ (8 * (i + k))), a + k)
  | 0, i, a, ds, hk, h => by
    have := h.2.1
    refine ⟨fun _ => by simp [pLow], fun hs => ?_⟩
    simp at hs
    omega
  | k + 1, i, a, ds, hk, h => by
    rw [lowB, List.cons_append] at h
    have r1 := byte_rd h
    by_cases hc : a + ((1 : Nat) : Int) ≤ s.size
    · have r2 := low_rd x k (i + 1) (a + 1) ds (by omega) (h.tail (by omega))
      rw [Rd, pLow, r1.1 hc]
      simp only
      rw [low_or x i (by omega)]
      constructor
      · intro hs
        rw [r2.1 (by omega)]
        simp only [Except.ok.injEq, Prod.mk.injEq]
        refine ⟨by rw [show i + 1 + k = i + (k + 1) by omega], by omega⟩
      · intro hs
        rw [r2.2 (by omega)]
    · rw [Rd, pLow, r1.2 hc]
      exact ⟨fun hs => by omega, fun _ => rfl⟩
/-! #### one instruction, a list -/
theorem may_un {x : S44} {k : Int} (h : mayB x = true) (hk : ofF x.f0 = k) : k ≠ 0 ∧ mayA k x = true ∧ mayC k x = true ∧ mayN k x = true ∧ mayT k x = true ∧ mayL k x = true ∧ mayI k x = true := by
  subst hk
  unfold mayB at h
  simp only [Bool.and_eq_true, decide_eq_true_eq] at h
  exact ⟨h.1.1.1.1.1.1, h.1.1.1.1.1.2, h.1.1.1.1.2, h.1.1.1.2, h.1.1.2, h.1.2, h.2⟩
theorem may_no {x : S44} {k : Int} (hk : k ≠ 2) (h : mayI k x = true) : x.f6 = [] ∧ x.f7 = [] := by
  unfold mayI at h
  simp only [hk, decide_false, Bool.false_and, Bool.false_or, decide_eq_true_eq] at h
  exact ⟨List.length_eq_zero_iff.1 (by omega), List.length_eq_zero_iff.1 (by omega)⟩
theorem may_nol {x : S44} {k : Int} (hk : k ≠ 4) (h : mayL k x = true) : x.f5 = [] := by
  unfold mayL at h
  rw [if_neg hk] at h
  simp only [decide_eq_true_eq] at h
  exact List.length_eq_zero_iff.1 h
theorem may_not {x : S44} {k : Int} (hk : k ≠ 2) (h : mayT k x = true) : x.f4 = 0 := by
  unfold mayT at h
  rw [if_neg hk] at h
  simpa using h
theorem may_non {x : S44} {k : Int} (hk : k ≠ 8 ∧ k ≠ 9) (h : mayN k x = true) : x.f3 = 0 := by
  unfold mayN at h
  rw [if_neg (by omega)] at h
  simp only [show ¬ (k = 8 ∨ k = 9) by omega, decide_false, Bool.false_or] at h
  simpa using h
theorem may_noc {x : S44} {k : Int} (hk : k ≠ 6) (h : mayC k x = true) : x.f2 = 0 := by
  unfold mayC at h
  rw [if_neg hk] at h
  simpa using h
theorem may_noa {x : S44} {k : Int} (hk : k ≠ 3 ∧ k ≠ 5 ∧ k ≠ 6) (h : mayA k x = true) : x.f1 = 0 := by
  unfold mayA at h
  rw [if_neg (by omega)] at h
  simpa using h
theorem may_a {x : S44} {k : Int} (hk : k = 3 ∨ k = 5 ∨ k = 6) (h : mayA k x = true) : 0 ≤ x.f1 ∧ x.f1 < 4294967296 := by
  unfold mayA at h
  rw [if_pos hk] at h
  unfold u32B at h
  simp only [decide_eq_true_eq] at h
  omega
theorem may_c6 {x : S44} (h : mayC 6 x = true) : 0 ≤ x.f2 ∧ x.f2 < 4294967296 := by
  unfold mayC at h
  rw [if_pos rfl] at h
  unfold u32B at h
  simp only [decide_eq_true_eq] at h
  omega
theorem may_n {x : S44} {k : Int} (hk : k = 8 ∨ k = 9) (hw : wideB x.f0 = false) (h : mayN k x = true) : 0 ≤ x.f3 ∧ x.f3 < 4294967296 := by
  unfold mayN at h
  rw [if_pos ⟨hk, hw⟩] at h
  unfold u32B at h
  simp only [decide_eq_true_eq] at h
  omega
theorem may_l4 {x : S44} (h : mayL 4 x = true) : 1 ≤ x.f5.length ∧ x.f5.length ≤ 1024 ∧ ∀ y ∈ x.f5, 0 ≤ y ∧ y < 4294967296 := by
  unfold mayL at h
  rw [if_pos rfl, Bool.and_eq_true] at h
  have h1 := h.1
  simp only [decide_eq_true_eq] at h1
  refine ⟨h1.1, h1.2, fun y hy => ?_⟩
  have h2 := h.2
  unfold anyNo at h2
  simp only [Bool.not_eq_true', List.any_eq_false, Bool.not_eq_true', Bool.not_eq_false] at h2
  have := h2 y hy
  unfold u32B at this
  simp at this
  omega
/-- A list is read as it was laid. -/
def LR (s : ByteArray) (n d : Nat) (is : List S44) : Prop := ∀ (fol : Bool) (en a m : Int) (es : List Int), (en = 11 ∨ en = 5 ∧ fol = true) → PAt s a (putL is ++ en :: es) → (s.size : Int) - a < n → m + (pre d is).length ≤ 8192 →
  Rd s a ((putL is).length + 1) (pList s n (d : Int) fol a m) (is, decide (en = 5), a + ((putL is).length + 1 : Nat), m + (pre d is).length)
theorem of_op {op : Int} (h : ofF op ≠ 0) : 0 ≤ op ∧ op < 192 ∧ op ≠ 5 ∧ op ≠ 11 := by
  unfold ofF at h
  repeat' split at h
  all_goals omega
theorem sign_rd {x : Int} (h : 0 ≤ x ∧ x < 4294967296) : -2147483648 ≤ signF x ∧ signF x < 2147483648 ∧ signF x % 4294967296 = x := by
  unfold signF wrap64 wrap32
  omega
theorem of_wide {op : Int} (h8 : ofF op = 8 ∨ ofF op = 9) : (wideB op = true ↔ op = 66 ∨ op = 68) ∧ (ofF op = 8 → op = 65 ∨ op = 66) ∧ (ofF op = 9 → op = 67 ∨ op = 68) := by
  unfold ofF at *
  unfold wideB
  simp only [decide_eq_true_eq, true_and]
  constructor <;> intro h
  all_goals
    repeat' split at h
    all_goals omega
theorem one_rd {s : ByteArray} {n d : Nat} {a m : Int} {x : S44} {ds : List Int} (wf : -9223372036854775808 ≤ x.f3 ∧ x.f3 < 9223372036854775808) (hm : mayB x = true) (hd : ¬ (ofF x.f0 = 2 ∧ 32 ≤ d)) (ih6 : LR s n (d + 1) x.f6) (ih7 : LR s n (d + 1) x.f7)
    (h : PAt s a (behind x (putL x.f6) (putL x.f7) ++ ds)) (hn : (s.size : Int) - a < n) (hmm : m + (pre (d + 1) x.f6).length + (pre (d + 1) x.f7).length ≤ 8192) :
    Rd s a (behind x (putL x.f6) (putL x.f7)).length (pOne s (pList s n) x.f0 d a m) (x, a + (behind x (putL x.f6) (putL x.f7)).length, m + (pre (d + 1) x.f6).length + (pre (d + 1) x.f7).length) := by
  have hp2 := h.2.1
  have hp1 := h.1
  rcases ofF_range x.f0 with hk | hk | hk | hk | hk | hk | hk | hk | hk | hk <;> obtain ⟨q0, qA, qC, qN, qT, qL, qI⟩ := may_un hm hk
  · exact absurd rfl q0
  · -- nothing
    obtain ⟨op, f1, f2, f3, f4, f5, f6, f7⟩ := x
    obtain ⟨e6, e7⟩ := may_no (by omega) qI
    have e5 := may_nol (by omega) qL
    have e4 := may_not (by omega) qT
    have e3 := may_non (by omega) qN
    have e2 := may_noc (by omega) qC
    have e1 := may_noa (by omega) qA
    simp only at hk e1 e2 e3 e4 e5 e6 e7
    subst e1 e2 e3 e4 e5 e6 e7
    unfold behind at h ⊢
    unfold pOne
    simp [hk, pre_nil] at h ⊢
    exact ⟨fun _ => rfl, fun hs => absurd hp2 (by simpa using hs)⟩
  · -- a block
    obtain ⟨op, f1, f2, f3, f4, f5, f6, f7⟩ := x
    have e5 := may_nol (by omega) qL
    have e3 := may_non (by omega) qN
    have e2 := may_noc (by omega) qC
    have e1 := may_noa (by omega) qA
    simp only at hk e1 e2 e3 e5 ih6 ih7 hd hmm
    subst e1 e2 e3 e5
    have e4 : typeB f4 = true := by
      unfold mayT at qT
      rwa [if_pos rfl] at qT
    have e4' : f4 % 256 = f4 := by
      unfold typeB at e4
      simp only [decide_eq_true_eq] at e4
      omega
    have hb : behind ⟨op, 0, 0, 0, f4, [], f6, f7⟩ (putL f6) (putL f7) = f4 :: (putL f6 ++ (if 0 < f7.length then 5 :: putL f7 else []) ++ [11]) := by unfold behind; simp [hk, e4']
    simp only at h ⊢
    rw [hb] at h ⊢
    have hO : pOne s (pList s n) op d a m = match pByte s a with
        | .error c => .error c
        | .ok (t, a1) => if typeB t = false then .error 1400 else match pList s n (d + 1) (op == 4) a1 m with
          | .error c => .error c
          | .ok (body, more, a2, m2) => if more then (match pList s n (d + 1) false a2 m2 with
              | .error c => .error c
              | .ok (els, _, a3, m3) => .ok (⟨op, 0, 0, 0, t, [], body, els⟩, a3, m3))
            else .ok (⟨op, 0, 0, 0, t, [], body, []⟩, a2, m2) := by
      unfold pOne pBlock
      rw [if_pos hk, if_neg (by omega)]
      rfl
    rw [hO]
    clear hO hb
    unfold Rd
    have r := byte_rd h
    have hd1 : ((d + 1 : Nat) : Int) = (d : Int) + 1 := rfl
    by_cases hc : a + 1 ≤ s.size
    · have ht := h.tail hc
      rw [r.1 hc]
      simp only [e4, Bool.true_eq_false, if_false]
      by_cases h7 : f7 = []
      · subst h7
        simp only [List.length_nil, pre_nil, show ¬ 0 < 0 by omega, if_false, List.append_nil, List.length_cons, List.length_append] at ht hmm ⊢
        have r6 := ih6 (op == 4) 11 (a + 1) m ds (.inl rfl) (ht.congr rfl (by simp)) (by omega) (by omega)
        rw [hd1] at r6
        refine ⟨fun hs => ?_, fun hs => ?_⟩
        · rw [r6.1 (by omega)]
          simp
          omega
        · rw [r6.2 (by omega)]
      · have h7' : 0 < f7.length := by
          cases f7 with
          | nil => exact absurd rfl h7
          | cons => simp
        have ho : op = 4 := by
          unfold mayI at qI
          simp at qI
          rcases qI with (q | q) | q
          · exact q
          · exact absurd q h7
          · exact absurd q.2 h7
        rw [if_pos h7'] at ht ⊢
        have r6 := ih6 (op == 4) 5 (a + 1) m (putL f7 ++ 11 :: ds) (.inr ⟨rfl, by simp [ho]⟩) (ht.congr rfl (by simp)) (by omega) (by omega)
        rw [hd1] at r6
        simp only [List.length_cons, List.length_append, List.length_nil]
        by_cases hc2 : a + 1 + ((putL f6).length + 1 : Nat) ≤ s.size
        · have ht2 : PAt s (a + 1 + ((putL f6).length + 1 : Nat)) (putL f7 ++ 11 :: ds) := by
            have := PAt.right (xs := putL f6 ++ [5]) (ds := putL f7 ++ 11 :: ds) (ht.congr rfl (by simp)) (by simpa using hc2)
            exact this.congr (by simp) rfl
          have r7 := ih7 false 11 _ (m + (pre (d + 1) f6).length) ds (.inl rfl) ht2 (by omega) (by omega)
          rw [hd1] at r7
          rw [r6.1 hc2]
          simp only [decide_true, if_true]
          refine ⟨fun hs => ?_, fun hs => ?_⟩
          · rw [r7.1 (by omega)]
            simp
            omega
          · rw [r7.2 (by omega)]
        · rw [r6.2 hc2]
          exact ⟨fun hs => by omega, fun hs => rfl⟩
    · rw [r.2 hc]
      exact ⟨fun hs => by simp at hs; omega, fun hs => rfl⟩
  · -- a number
    obtain ⟨op, f1, f2, f3, f4, f5, f6, f7⟩ := x
    obtain ⟨e6, e7⟩ := may_no (by omega) qI
    have e5 := may_nol (by omega) qL
    have e4 := may_not (by omega) qT
    have e3 := may_non (by omega) qN
    have e2 := may_noc (by omega) qC
    have e1 := may_a (by omega) qA
    simp only at hk e1 e2 e3 e4 e5 e6 e7
    subst e2 e3 e4 e5 e6 e7
    have hb : behind ⟨op, f1, 0, 0, 0, [], [], []⟩ (putL []) (putL []) = uB f1 := by unfold behind; simp [hk]
    simp only at h ⊢
    rw [hb] at h ⊢
    have r := u_rd h e1.1 e1.2
    unfold pOne Rd
    rw [if_neg (by omega), if_pos hk]
    simp only [pre_nil, List.length_nil]
    refine ⟨fun hs => ?_, fun hs => ?_⟩
    · rw [r.1 hs]; simp [oneI]
    · rw [r.2 hs]; simp [oneI]
  · -- labels
    obtain ⟨op, f1, f2, f3, f4, f5, f6, f7⟩ := x
    obtain ⟨e6, e7⟩ := may_no (by omega) qI
    obtain ⟨l1, l2, l3⟩ := may_l4 qL
    have e4 := may_not (by omega) qT
    have e3 := may_non (by omega) qN
    have e2 := may_noc (by omega) qC
    have e1 := may_noa (by omega) qA
    simp only at hk e1 e2 e3 e4 e6 e7 l1 l2 l3
    subst e1 e2 e3 e4 e6 e7
    have hb : behind ⟨op, 0, 0, 0, 0, f5, [], []⟩ (putL []) (putL []) = uB ((f5.length : Int) - 1) ++ f5.flatMap uB := by unfold behind; simp [hk]
    simp only at h ⊢
    rw [hb] at h ⊢
    have r := labels_rd h l1 l2 l3
    unfold pOne Rd
    rw [if_neg (by omega), if_neg (by omega), if_pos hk]
    simp only [pre_nil, List.length_nil]
    refine ⟨fun hs => ?_, fun hs => ?_⟩
    · rw [r.1 hs]; simp
    · rw [r.2 hs]
  · -- a number and a nought
    obtain ⟨op, f1, f2, f3, f4, f5, f6, f7⟩ := x
    obtain ⟨e6, e7⟩ := may_no (by omega) qI
    have e5 := may_nol (by omega) qL
    have e4 := may_not (by omega) qT
    have e3 := may_non (by omega) qN
    have e2 := may_noc (by omega) qC
    have e1 := may_a (by omega) qA
    simp only at hk e1 e2 e3 e4 e5 e6 e7
    subst e2 e3 e4 e5 e6 e7
    have hb : behind ⟨op, f1, 0, 0, 0, [], [], []⟩ (putL []) (putL []) = uB f1 ++ [0] := by unfold behind; simp [hk]
    simp only at h ⊢
    rw [hb] at h ⊢
    rw [List.append_assoc] at h
    have r := u_rd h e1.1 e1.2
    unfold pOne Rd
    rw [if_neg (by omega), if_neg (by omega), if_neg (by omega), if_pos hk]
    simp only [pre_nil, List.length_nil, List.length_append, List.length_cons]
    by_cases hc : a + (uB f1).length ≤ s.size
    · have r2 := byte_rd (h.right hc)
      rw [r.1 hc]
      simp only [pNought]
      refine ⟨fun hs => ?_, fun hs => ?_⟩
      · rw [r2.1 (by omega)]
        simp
        omega
      · rw [r2.2 (by omega)]
    · rw [r.2 hc]
      exact ⟨fun hs => by omega, fun hs => rfl⟩
  · -- two numbers
    obtain ⟨op, f1, f2, f3, f4, f5, f6, f7⟩ := x
    obtain ⟨e6, e7⟩ := may_no (by omega) qI
    have e5 := may_nol (by omega) qL
    have e4 := may_not (by omega) qT
    have e3 := may_non (by omega) qN
    have e2 := may_c6 qC
    have e1 := may_a (by omega) qA
    simp only at hk e1 e2 e3 e4 e5 e6 e7
    subst e3 e4 e5 e6 e7
    have hb : behind ⟨op, f1, f2, 0, 0, [], [], []⟩ (putL []) (putL []) = uB f1 ++ uB f2 := by unfold behind; simp [hk]
    simp only at h ⊢
    rw [hb] at h ⊢
    rw [List.append_assoc] at h
    have r := u_rd h e1.1 e1.2
    unfold pOne Rd
    rw [if_neg (by omega), if_neg (by omega), if_neg (by omega), if_neg (by omega), if_pos hk]
    simp only [pre_nil, List.length_nil, List.length_append, List.length_cons]
    by_cases hc : a + (uB f1).length ≤ s.size
    · have r2 := u_rd (h.right hc) e2.1 e2.2
      rw [r.1 hc]
      refine ⟨fun hs => ?_, fun hs => ?_⟩
      · simp only
        rw [r2.1 (by omega)]
        simp
        omega
      · simp only
        rw [r2.2 (by omega)]
    · rw [r.2 hc]
      exact ⟨fun hs => by omega, fun hs => rfl⟩
  · -- a nought
    obtain ⟨op, f1, f2, f3, f4, f5, f6, f7⟩ := x
    obtain ⟨e6, e7⟩ := may_no (by omega) qI
    have e5 := may_nol (by omega) qL
    have e4 := may_not (by omega) qT
    have e3 := may_non (by omega) qN
    have e2 := may_noc (by omega) qC
    have e1 := may_noa (by omega) qA
    simp only at hk e1 e2 e3 e4 e5 e6 e7
    subst e1 e2 e3 e4 e5 e6 e7
    have hb : behind ⟨op, 0, 0, 0, 0, [], [], []⟩ (putL []) (putL []) = [0] := by unfold behind; simp [hk]
    simp only at h ⊢
    rw [hb] at h ⊢
    have r := byte_rd h
    unfold pOne Rd
    rw [if_neg (by omega), if_neg (by omega), if_neg (by omega), if_neg (by omega), if_neg (by omega), if_pos hk]
    simp only [pre_nil, List.length_nil, List.length_cons, pNought]
    refine ⟨fun hs => ?_, fun hs => ?_⟩
    · rw [r.1 (by omega)]; simp
    · rw [r.2 (by omega)]
  · -- a whole number's constant
    obtain ⟨op, f1, f2, f3, f4, f5, f6, f7⟩ := x
    obtain ⟨e6, e7⟩ := may_no (by omega) qI
    have e5 := may_nol (by omega) qL
    have e4 := may_not (by omega) qT
    have e2 := may_noc (by omega) qC
    have e1 := may_noa (by omega) qA
    simp only at hk e1 e2 e4 e5 e6 e7 wf
    subst e1 e2 e4 e5 e6 e7
    have hb : behind ⟨op, 0, 0, f3, 0, [], [], []⟩ (putL []) (putL []) = sB (if op = 65 then signF f3 else f3) := by unfold behind; simp [hk]
    simp only at h ⊢
    rw [hb] at h ⊢
    have hO : pOne s (pList s n) op d a m = if wideB op = true then oneI (pNum (GS s a 64)) m (fun x => ⟨op, 0, 0, x, 0, [], [], []⟩) else oneI (pNum (GS s a 32)) m (fun x => ⟨op, 0, 0, x % 4294967296, 0, [], [], []⟩) := by
      unfold pOne
      rw [if_neg (by omega), if_neg (by omega), if_neg (by omega), if_neg (by omega), if_neg (by omega), if_neg (by omega), if_pos hk]
    rw [hO]
    clear hO hb
    unfold Rd
    simp only [pre_nil, List.length_nil]
    rcases (of_wide (.inl hk)).2.1 hk with ho | ho <;> subst ho
    · have hn3 := may_n (.inl rfl) (show wideB 65 = false by decide) qN
      simp only at hn3
      obtain ⟨g1, g2, g3⟩ := sign_rd hn3
      rw [if_pos rfl] at h ⊢
      rw [if_neg (show ¬ wideB 65 = true by decide)]
      have r := s_rd (b := 32) h (.inl ⟨rfl, g1, g2⟩)
      refine ⟨fun hs => ?_, fun hs => ?_⟩
      · rw [r.1 hs]; simp [oneI, g3]
      · rw [r.2 hs]; simp [oneI]
    · rw [if_neg (show ¬ (66 : Int) = 65 by decide)] at h ⊢
      rw [if_pos (show wideB 66 = true by decide)]
      have r := s_rd (b := 64) h (.inr ⟨rfl, wf.1, wf.2⟩)
      refine ⟨fun hs => ?_, fun hs => ?_⟩
      · rw [r.1 hs]; simp [oneI]
      · rw [r.2 hs]; simp [oneI]
  · -- a constant's bits
    obtain ⟨op, f1, f2, f3, f4, f5, f6, f7⟩ := x
    obtain ⟨e6, e7⟩ := may_no (by omega) qI
    have e5 := may_nol (by omega) qL
    have e4 := may_not (by omega) qT
    have e2 := may_noc (by omega) qC
    have e1 := may_noa (by omega) qA
    simp only at hk e1 e2 e4 e5 e6 e7 wf
    subst e1 e2 e4 e5 e6 e7
    have hb : behind ⟨op, 0, 0, f3, 0, [], [], []⟩ (putL []) (putL []) = lowB f3 (if wideB op = true then 8 else 4) 0 := by unfold behind; simp [hk]
    simp only at h ⊢
    rw [hb] at h ⊢
    rw [lowB_len']
    have hO : pOne s (pList s n) op d a m = oneI (pLow s (if wideB op = true then 8 else 4) 0 0 a) m (fun x => ⟨op, 0, 0, x, 0, [], [], []⟩) := by
      unfold pOne
      rw [if_neg (by omega), if_neg (by omega), if_neg (by omega), if_neg (by omega), if_neg (by omega), if_neg (by omega), if_neg (by omega), if_pos hk]
    rw [hO]
    clear hO hb
    unfold Rd
    simp only [pre_nil, List.length_nil]
    rcases (of_wide (.inr hk)).2.2 hk with ho | ho <;> subst ho
    · have hn3 := may_n (.inr rfl) (show wideB 67 = false by decide) qN
      simp only at hn3
      rw [if_neg (show ¬ wideB 67 = true by decide)] at h ⊢
      have r := low_rd f3 4 0 a ds (by omega) h
      rw [show wrap64 (f3 % 2 ^ (8 * 0)) = 0 by simp [wrap64], show wrap64 (f3 % 2 ^ (8 * (0 + 4))) = f3 by rw [show (2 : Int) ^ (8 * (0 + 4)) = 4294967296 by decide]; unfold wrap64; omega] at r
      refine ⟨fun hs => ?_, fun hs => ?_⟩
      · rw [r.1 hs]; simp [oneI]
      · rw [r.2 hs]; simp [oneI]
    · rw [if_pos (show wideB 68 = true by decide)] at h ⊢
      have r := low_rd f3 8 0 a ds (by omega) h
      rw [show wrap64 (f3 % 2 ^ (8 * 0)) = 0 by simp [wrap64], show wrap64 (f3 % 2 ^ (8 * (0 + 8))) = f3 by rw [show (2 : Int) ^ (8 * (0 + 8)) = 18446744073709551616 by decide]; unfold wrap64; omega] at r
      refine ⟨fun hs => ?_, fun hs => ?_⟩
      · rw [r.1 hs]; simp [oneI]
      · rw [r.2 hs]; simp [oneI]
theorem lr_all (s : ByteArray) : ∀ (sz : Nat) (is : List S44), SizeOf.sizeOf is ≤ sz → ∀ (n d : Nat), wf64 is → (∀ q ∈ pre d is, mayB q.2 = true ∧ ¬ (ofF q.2.f0 = 2 ∧ 32 ≤ q.1)) → LR s n d is
  | sz, [], hsz, n, d, wf, hq => by
    intro fol en a m es hen h hn hm
    rw [putL_nil, List.nil_append] at h
    have r := byte_rd h
    have hp := h.2.1
    obtain ⟨k, rfl⟩ : ∃ k, n = k + 1 := ⟨n - 1, by omega⟩
    unfold Rd
    rw [pList]
    simp only [putL_nil, pre_nil, List.length_nil]
    refine ⟨fun hs => ?_, fun hs => ?_⟩
    · rw [r.1 (by omega)]
      simp only
      rcases hen with rfl | ⟨rfl, rfl⟩
      · simp
      · simp
    · rw [r.2 (by omega)]
  | sz, x :: xs, hsz, n, d, wf, hq => by
    intro fol en a m es hen h hn hm
    have hz := size44 x
    simp only [List.cons.sizeOf_spec] at hsz
    obtain ⟨j, rfl⟩ : ∃ j, sz = j + 1 := ⟨sz - 1, by omega⟩
    obtain ⟨k, rfl⟩ : ∃ k, n = k + 1 := ⟨n - 1, by have := h.2.1; omega⟩
    obtain ⟨wx, w6, w7, wxs⟩ := (wf64_cons x xs).1 wf
    rw [pre_cons] at hq hm ⊢
    have hx := hq (d, x) (by simp)
    have i6 := lr_all s j x.f6 (by omega) k (d + 1) w6 (fun q hq' => hq q (by simp [hq']))
    have i7 := lr_all s j x.f7 (by omega) k (d + 1) w7 (fun q hq' => hq q (by simp [hq']))
    have ixs := lr_all s j xs (by omega) k d wxs (fun q hq' => hq q (by simp [hq']))
    rw [putL_cons] at h ⊢
    have h0 : ofF x.f0 ≠ 0 := (may_un hx.1 rfl).1
    have hop := of_op h0
    simp only [List.length_cons, List.length_append] at hm ⊢
    unfold oneL at h ⊢
    rw [show x.f0 % 256 = x.f0 by omega] at h ⊢
    have h' : PAt s a (x.f0 :: (behind x (putL x.f6) (putL x.f7) ++ (putL xs ++ en :: es))) := h.congr rfl (by simp)
    have r := byte_rd h'
    unfold Rd
    rw [pList]
    simp only [List.length_cons]
    by_cases hc : a + 1 ≤ s.size
    · have ht := h'.tail hc
      rw [r.1 hc]
      simp only
      rw [if_neg (by omega), if_neg (by omega), if_neg h0, if_neg (by omega)]
      have r1 := one_rd (d := d) (m := m + 1) wx hx.1 hx.2 i6 i7 ht (by omega) (by omega)
      by_cases hc2 : a + 1 + (behind x (putL x.f6) (putL x.f7)).length ≤ s.size
      · have r2 := ixs fol en _ (m + 1 + (pre (d + 1) x.f6).length + (pre (d + 1) x.f7).length) es hen (ht.right hc2) (by omega) (by omega)
        rw [r1.1 hc2]
        simp only
        refine ⟨fun hs => ?_, fun hs => ?_⟩
        · rw [r2.1 (by omega)]
          simp
          omega
        · rw [r2.2 (by omega)]
      · rw [r1.2 hc2]
        exact ⟨fun hs => by omega, fun hs => rfl⟩
    · rw [r.2 hc]
      exact ⟨fun hs => by omega, fun hs => rfl⟩
/-- There and back. -/
theorem get_back {is : List S44} (wf : wf64 is) (hm : mayE is = 0) {s : ByteArray} {a : Int} {es : List Int} (h : PAt s a (putL is ++ 11 :: es)) : Rd s a ((putL is).length + 1) (pGet s a) (is, a + ((putL is).length + 1 : Nat)) := by
  obtain ⟨hl, hq⟩ := may_all hm
  have h0 := h.1
  have h1 := h.2.1
  have r := lr_all s _ is (Nat.le_refl _) (s.size + 1) 0 wf hq false 11 a 0 es (.inl rfl) h (by omega) (by omega)
  unfold Rd pGet
  rw [if_neg (by omega)]
  refine ⟨fun hs => ?_, fun hs => ?_⟩
  · rw [show (((0 : Nat) : Int)) = 0 from rfl] at r
    rw [r.1 hs]
  · rw [show (((0 : Nat) : Int)) = 0 from rfl] at r
    rw [r.2 hs]
theorem putS_size (is : List S44) : (putS is).size = (putL is).length + 1 := by
  unfold putS
  rw [size_str]
  simp
theorem putS_rng {is : List S44} (wf : wf64 is) : ∀ i, 0 ≤ nth (putL is ++ [11]) i ∧ nth (putL is ++ [11]) i < 256 := by
  intro i
  by_cases hi : i < (putL is ++ [11]).length
  · unfold nth
    rw [List.getD_eq_getElem?_getD, List.getElem?_eq_getElem hi]
    have hm := List.getElem_mem hi
    simp only [List.mem_append, List.mem_singleton] at hm
    rcases hm with hm | hm
    · exact putL_rng _ is (Nat.le_refl _) wf _ hm
    · simp only [Option.getD_some]
      omega
  · rw [nth_out _ _ (by omega)]
    omega
theorem pAt_mid {is : List S44} (wf : wf64 is) (p q : ByteArray) (hz : (p ++ putS is ++ q).size ≤ 1152921504606846976) : PAt (p ++ putS is ++ q) p.size (putL is ++ 11 :: []) := by
  have this : At (p ++ putS is ++ q) p.size (putL is ++ [11]) := LebBacks.at_mid p q (putL is ++ [11]) (putS_rng wf) hz
  exact ⟨this.1, by have := this.2.1; omega, this.2.2.1, fun i hi _ => this.2.2.2 i hi⟩
/-- Alone. -/
theorem back_all {is : List S44} (wf : wf64 is) (hm : mayE is = 0) : pGet (putS is) 0 = .ok (is, (putS is).size) := by
  have hl := putL_bound hm wf
  have hsz := putS_size is
  have h := pAt_mid wf ByteArray.empty ByteArray.empty (is := is) (by simp only [ByteArray.size_append, ByteArray.size_empty]; omega)
  have e : ByteArray.empty ++ putS is ++ ByteArray.empty = putS is := by simp
  rw [e] at h
  have r := (get_back wf hm h).1 (by simp only [ByteArray.size_empty]; omega)
  rw [ByteArray.size_empty] at r
  rw [show (((0 : Nat) : Int)) = 0 from rfl] at r
  rw [r, hsz]
  simp
end Go.Proofs.Ytbekfmeaeaghpaa.EInstr
