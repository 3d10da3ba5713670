/-
  Instructions that a text writes down: how they read. awake of chapter 14. Get and Put where what they answer is known: for the laws.
-/
import Derived.Test.YtbekfmeaeaghpaaFx0
import Derived.Test.YtbekfmeaeaghpaaD14C
import Derived.Test.YtbekfmeaeaghpaaD14F
import Derived.Test.YtbekfmeaeaghpaaD14E
import Derived.Test.YtbekfmeaeaghpaaD14H
import Derived.Test.YtbekfmeaeaghpaaD14A
namespace Go.Proofs.Ytbekfmeaeaghpaa.EInstr
open Go Go.RowKit Go.Proofs.Ytbekfmeaeaghpaa.F Go.Proofs.YtbekfmeaeaghpaaW.Hand Go.Proofs.YtbekfmeaeaghpaaW.PrintWords Go.Proofs.YtbekfmeaeaghpaaW.PrintLast Go.Proofs.YtbekfmeaeaghpaaW.PrintMore
set_option linter.unusedVariables false
set_option linter.unusedSimpArgs false
/-- A row that a block holds from its head on. -/
theorem c_reps {α : Type} {d : Kd α} {W : World} {g e : Nat} {fr : Nat × Nat} {xs : List α} {inner : List Value} (h : W.heap[g]? = some (.cells inner.toArray e fr)) (hr : Reps (d.K W) d.sz xs inner) (hl : xs.length ≤ 9223372036854775807) : d.C W (some ⟨g, 0, none⟩) xs.length xs := by
  refine ⟨rfl, hl, fun _ => ⟨⟨g, 0, none⟩, rfl, fun j p hj => ?_⟩⟩
  have hjl : j < xs.length := (List.getElem?_eq_some_iff.1 hj).1
  have h1 : j * d.sz + d.sz ≤ inner.length := by
    rw [hr.1, ← Nat.succ_mul]
    exact Nat.mul_le_mul_right _ hjl
  refine ⟨(inner.drop (j * d.sz)).take d.sz, by rw [List.length_take, List.length_drop]; omega, hr.2 j p hj, fun i u hu => ?_⟩
  have hi : i < d.sz := by
    have := (List.getElem?_eq_some_iff.1 hu).1
    rw [List.length_take] at this
    omega
  rw [List.getElem?_take_of_lt hi, List.getElem?_drop] at hu
  rw [add_plain]
  simp only [World.cell?, h]
  simpa using hu
theorem reps_one {α : Type} {R : α → List Value → Prop} {sz : Nat} {x : α} {cs : List Value} (hl : cs.length = sz) (h : R x cs) : Reps R sz [x] cs := by
  refine ⟨by simp [hl], fun j p hj => ?_⟩
  match j, hj with
  | 0, hj =>
    simp at hj
    subst hj
    subst hl
    simpa using h
theorem reps_nil {α : Type} {R : α → List Value → Prop} {sz : Nat} : Reps R sz ([] : List α) [] := ⟨by simp, fun j p hj => by simp at hj⟩
theorem reps_cons {α : Type} {R : α → List Value → Prop} {sz : Nat} {x : α} {xs : List α} {cs ds : List Value} (hl : cs.length = sz) (h : R x cs) (hr : Reps R sz xs ds) : Reps R sz (x :: xs) (cs ++ ds) := by
  refine ⟨by rw [List.length_append, hl, hr.1, List.length_cons, Nat.succ_mul, Nat.add_comm], fun j p hj => ?_⟩
  match j, hj with
  | 0, hj =>
    simp at hj
    subst hj
    rw [Nat.zero_mul, List.drop_zero, ← hl, List.take_left]
    exact h
  | j + 1, hj =>
    have := hr.2 j p (by simpa using hj)
    rw [Nat.succ_mul, Nat.add_comm, ← hl, List.drop_length_add_append, hl]
    exact this
theorem c_nil {α : Type} (d : Kd α) (W : World) : d.C W none 0 [] := ⟨rfl, by omega, fun h => absurd h (by omega)⟩
/-- An instruction without inner ones. -/
theorem k_leaf (W : World) (op a b bits ty : Int) : k44.K W ⟨op, a, b, bits, ty, [], [], []⟩ [.int .i64 op, .int .i64 a, .int .i64 b, .int .i64 bits, .int .i64 ty, .slice none 0 0, .slice none 0 0, .slice none 0 0] :=
  k44_mk W ⟨op, a, b, bits, ty, [], [], []⟩ (Nat.le_refl _) (c_nil _ W) (Nat.le_refl _) (c_nil _ W) (Nat.le_refl _) (c_nil _ W)
theorem c_leaf {W : World} {g : Nat} {op a b bits ty : Int} (h : W.heap[g]? = some (.cells #[.int .i64 op, .int .i64 a, .int .i64 b, .int .i64 bits, .int .i64 ty, .slice none 0 0, .slice none 0 0, .slice none 0 0] 44 (0, 0))) : k44.C W (some ⟨g, 0, none⟩) 1 [⟨op, a, b, bits, ty, [], [], []⟩] :=
  c_reps (d := k44) (xs := [(⟨op, a, b, bits, ty, [], [], []⟩ : S44)]) (inner := [.int .i64 op, .int .i64 a, .int .i64 b, .int .i64 bits, .int .i64 ty, .slice none 0 0, .slice none 0 0, .slice none 0 0]) h (reps_one rfl (k_leaf W op a b bits ty)) (by simp)
theorem c_block {W : World} {g : Nat} {op a b bits ty : Int} {body els : List S44} {A6 A7 : Option Addr} {c6 c7 : Nat} (h : W.heap[g]? = some (.cells #[.int .i64 op, .int .i64 a, .int .i64 b, .int .i64 bits, .int .i64 ty, .slice none 0 0, .slice A6 body.length c6, .slice A7 els.length c7] 44 (0, 0))) (l6 : body.length ≤ c6) (C6 : k44.C W A6 body.length body) (l7 : els.length ≤ c7) (C7 : k44.C W A7 els.length els) : k44.C W (some ⟨g, 0, none⟩) 1 [⟨op, a, b, bits, ty, [], body, els⟩] :=
  c_reps (d := k44) (xs := [(⟨op, a, b, bits, ty, [], body, els⟩ : S44)]) (inner := [.int .i64 op, .int .i64 a, .int .i64 b, .int .i64 bits, .int .i64 ty, .slice none 0 0, .slice A6 body.length c6, .slice A7 els.length c7]) h (reps_one rfl (k44_mk W ⟨op, a, b, bits, ty, [], body, els⟩ (Nat.le_refl _) (c_nil _ W) l6 C6 l7 C7)) (by simp)
/-! #### the texts of awake -/
def isA : List S44 := [⟨4, 0, 0, 0, 127, [], [⟨65, 0, 0, 4294967295, 0, [], [], []⟩], [⟨32, 3, 0, 0, 0, [], [], []⟩]⟩]
theorem preA : pre 0 isA = [(0, ⟨4, 0, 0, 0, 127, [], [⟨65, 0, 0, 4294967295, 0, [], [], []⟩], [⟨32, 3, 0, 0, 0, [], [], []⟩]⟩), (1, ⟨65, 0, 0, 4294967295, 0, [], [], []⟩), (1, ⟨32, 3, 0, 0, 0, [], [], []⟩)] := by
  simp [isA, pre_cons, pre_nil]
theorem mayA_ : mayE isA = 0 := by
  unfold mayE
  rw [preA]
  decide +kernel
theorem countA : countF isA = 3 := by
  unfold countF
  rw [preA]
  rfl
theorem wfA : wf64 isA := by simp [isA, wf64_cons, wf64_nil]
theorem putA : putS isA = ⟨#[4, 127, 65, 127, 5, 32, 3, 11, 11]⟩ := by
  have : putL isA = [4, 127, 65, 127, 5, 32, 3, 11] := by
    simp only [isA, putL_cons, putL_nil, oneL]
    decide +kernel
  unfold putS
  rw [this]
  rfl
theorem getA : pGet ⟨#[122, 4, 127, 65, 127, 5, 32, 3, 11, 11, 122]⟩ 1 = .ok (isA, 10) := by kernel_rfl
theorem getB : pGet ⟨#[6]⟩ 0 = .error 1403 := by kernel_rfl
theorem mayB6 : mayE [⟨6, 0, 0, 0, 0, [], [], []⟩] = 1400 := by
  unfold mayE
  simp only [pre_cons, pre_nil]
  decide +kernel
end Go.Proofs.Ytbekfmeaeaghpaa.EInstr
namespace Go.Proofs.Ytbekfmeaeaghpaa.EInstr
open Go Go.RowKit Go.Proofs.Ytbekfmeaeaghpaa.F Go.Proofs.YtbekfmeaeaghpaaW.Hand Go.Proofs.YtbekfmeaeaghpaaW.PrintWords Go.Proofs.YtbekfmeaeaghpaaW.PrintLast Go.Proofs.YtbekfmeaeaghpaaW.PrintMore
open Go.Proofs.Ytbekfmeaeaghpaa.LebGets (G)
open Go.Proofs.Ytbekfmeaeaghpaa.LebGetS (GS)
set_option linter.unusedVariables false
set_option linter.unusedSimpArgs false

theorem litA {W : World} {g g1 g2 : Nat} (h : W.heap[g]? = some (.cells #[.int .i64 4, .int .i64 0, .int .i64 0, .int .i64 0, .int .i64 127, .slice none 0 0, .slice (some ⟨g1, 0, none⟩) 1 1, .slice (some ⟨g2, 0, none⟩) 1 1] 44 (0, 0))) (C6 : k44.C W (some ⟨g1, 0, none⟩) 1 [⟨65, 0, 0, 4294967295, 0, [], [], []⟩]) (C7 : k44.C W (some ⟨g2, 0, none⟩) 1 [⟨32, 3, 0, 0, 0, [], [], []⟩]) : k44.C W (some ⟨g, 0, none⟩) 1 isA :=
  c_block (body := [⟨65, 0, 0, 4294967295, 0, [], [], []⟩]) (els := [⟨32, 3, 0, 0, 0, [], [], []⟩]) h (Nat.le_refl _) C6 (Nat.le_refl _) C7
theorem putA_c {W : World} {A : Option Addr} (h : k44.C W A 1 isA) : Calls Try.prog 14 #[.slice A 1 1] W fun e w' => e = .returned (.tuple #[.string ⟨#[4, 127, 65, 127, 5, 32, 3, 11, 11]⟩, .int .i64 0]) ∧ Below W.heap.size W w' := by
  have := put_yes (c := 1) h (Nat.le_refl _) wfA mayA_
  rw [putA] at this
  exact this
theorem putB_c {W : World} {A : Option Addr} (h : k44.C W A 1 [⟨6, 0, 0, 0, 0, [], [], []⟩]) : Calls Try.prog 14 #[.slice A 1 1] W fun e w' => e = .returned (.tuple #[.string ByteArray.empty, .int .i64 1400]) ∧ Below W.heap.size W w' := by
  have := put_no (c := 1) h (Nat.le_refl _) (by rw [mayB6]; decide)
  rw [mayB6] at this
  exact this
theorem getA_c (W : World) : Calls Try.prog 21 #[.string ((⟨#[122]⟩ : ByteArray) ++ ⟨#[4, 127, 65, 127, 5, 32, 3, 11, 11]⟩ ++ ⟨#[122]⟩), .int .i64 1] W fun e w' => ∃ A c, e = .returned (.tuple #[.slice A 1 c, .int .i64 10, .int .i64 0]) ∧ k44.C w' A 1 isA ∧ 1 ≤ c ∧ Below W.heap.size W w' := by
  rw [show (⟨#[122]⟩ : ByteArray) ++ ⟨#[4, 127, 65, 127, 5, 32, 3, 11, 11]⟩ ++ ⟨#[122]⟩ = ⟨#[122, 4, 127, 65, 127, 5, 32, 3, 11, 11, 122]⟩ by decide +kernel]
  have := get_calls (s := ⟨#[122, 4, 127, 65, 127, 5, 32, 3, 11, 11, 122]⟩) (a := 1) (W := W) (by decide)
  rw [getA] at this
  refine this.mono ?_
  rintro e w' ⟨A, c, rfl, hR, hb⟩
  obtain ⟨A', c', he, hl, hC⟩ := Kd.R_reads hR
  injection he with h1 h2 h3
  subst h1; subst h3
  exact ⟨A, c, rfl, hC, hl, hb⟩
theorem getB_c (W : World) : Calls Try.prog 21 #[.string ⟨#[6]⟩, .int .i64 0] W fun e w' => e = .returned (.tuple #[.slice none 0 0, .int .i64 0, .int .i64 1403]) ∧ Below W.heap.size W w' := by
  have := get_calls (s := ⟨#[6]⟩) (a := 0) (W := W) (by decide)
  rw [getB] at this
  exact this
theorem sameA_c {W : World} {A B : Option Addr} {c : Nat} (h : k44.C W A 1 isA) (hc : 1 ≤ c) (h2 : k44.C W B 1 isA) : Calls Try.prog 19 #[.slice A 1 c, .slice B 1 1] W fun e w' => e = .returned (.bool true) ∧ Below W.heap.size W w' :=
  ESame.same_size _ isA (Nat.le_refl _) W h hc h2 (Nat.le_refl _)
theorem countA_c {W : World} {A : Option Addr} (h : k44.C W A 1 isA) : Calls Try.prog 17 #[.slice A 1 1] W fun e w' => e = .returned (.int .i64 3) ∧ Below W.heap.size W w' := by
  have := count_calls W isA A 1 h (Nat.le_refl _)
  rw [countA] at this
  exact this
theorem num_c (e : Int) (w : World) : Calls Try.prog 16 #[.int .i64 e] w fun r w' => r = .returned (.int .i64 e) ∧ w = w' := by
  go_enter Try.func16, Try.ntmps16
  go_wp2
  go_ret
  exact ⟨rfl, rfl⟩
set_option maxHeartbeats 4000000 in
set_option maxRecDepth 100000 in
theorem awake14_c (W : World) : Calls Try.prog 20 #[] W fun e w' => e = .returned (.bool true) ∧ Below W.heap.size W w' := by
  go_enter Try.func20, Try.ntmps20
  go_wp2_with (first
    | ((with_reducible refine gate_dst (N := 13) rfl ?_); refine lit_event ?hg (N := 13) ?hd (cs := #[.int .i64 65, .int .i64 0, .int .i64 0, .int .i64 4294967295, .int .i64 0, .slice none 0 0, .slice none 0 0, .slice none 0 0]) (t := 44) (n := 1) ?hr ?_; (case hd => rfl); (case hg => rfl); (case hr => first | (go_simp; done) | (go_simp; rfl)); intro g1 hgg1 w1 hA hb; have C1 := Aside0.mk (c_leaf hA); have B1 := Aside0.mk hb; clear hgg1 hA hb)
    | ((with_reducible refine gate_dst (N := 15) rfl ?_); refine lit_event ?hg (N := 15) ?hd (cs := #[.int .i64 32, .int .i64 3, .int .i64 0, .int .i64 0, .int .i64 0, .slice none 0 0, .slice none 0 0, .slice none 0 0]) (t := 44) (n := 1) ?hr ?_; (case hd => rfl); (case hg => rfl); (case hr => first | (go_simp; done) | (go_simp; rfl)); intro g2 hgg2 w2 hA hb; have C2 := Aside0.mk (c_leaf hA); have D1 := Aside0.mk (Kd.C_below C1.out hb); have B2 := Aside0.mk (below_step B1.out hb); clear hgg2 hA hb C1 B1)
    | ((with_reducible refine gate_dst (N := 17) rfl ?_); refine lit_event ?hg (N := 17) ?hd (cs := #[.int .i64 4, .int .i64 0, .int .i64 0, .int .i64 0, .int .i64 127, .slice none 0 0, .slice (some ⟨g1, 0, none⟩) 1 1, .slice (some ⟨g2, 0, none⟩) 1 1]) (t := 44) (n := 1) ?hr ?_; (case hd => rfl); (case hg => rfl); (case hr => first | (go_simp; done) | (go_simp; rfl)); intro g3 hgg3 w3 hA hb; have C3 : Aside0 (k44.C w3 (some ⟨g3, 0, none⟩) 1 isA) := ⟨litA hA (Kd.C_below D1.out hb) (Kd.C_below C2.out hb)⟩; have B3 := Aside0.mk (below_step B2.out hb); clear hgg3 hA hb D1 C2 B2)
    | (go_at_call 14; (with_reducible refine (putA_c C3.out).mono ?_); rintro e w4 ⟨rfl, hb⟩; have C4 := Aside0.mk (Kd.C_below C3.out hb); have B4 := Aside0.mk (below_step B3.out hb); clear hb C3 B3)
    | (go_at_call 21; (with_reducible refine (getA_c _).mono ?_); rintro e w5 ⟨A5, c5, rfl, hC, hc, hb⟩; have G5 := Aside0.mk hC; have L5 := Aside0.mk hc; have C5 := Aside0.mk (Kd.C_below C4.out hb); have B5 := Aside0.mk (below_step B4.out hb); clear hb hC hc C4 B4)
    | (go_at_call 21; (with_reducible refine (getB_c _).mono ?_); rintro e w6 ⟨rfl, hb⟩; have G6 := Aside0.mk (Kd.C_below G5.out hb); have C6 := Aside0.mk (Kd.C_below C5.out hb); have B6 := Aside0.mk (below_step B5.out hb); clear hb G5 C5 B5)
    | ((with_reducible refine gate_dst (N := 38) rfl ?_); refine lit_event ?hg (N := 38) ?hd (cs := #[.int .i64 6, .int .i64 0, .int .i64 0, .int .i64 0, .int .i64 0, .slice none 0 0, .slice none 0 0, .slice none 0 0]) (t := 44) (n := 1) ?hr ?_; (case hd => rfl); (case hg => rfl); (case hr => first | (go_simp; done) | (go_simp; rfl)); intro g7 hgg7 w7 hA hb; have C8 := Aside0.mk (c_leaf hA); have G7 := Aside0.mk (Kd.C_below G6.out hb); have C7 := Aside0.mk (Kd.C_below C6.out hb); have B7 := Aside0.mk (below_step B6.out hb); clear hgg7 hA hb G6 C6 B6)
    | (go_at_call 14; (with_reducible refine (putB_c C8.out).mono ?_); rintro e w8 ⟨rfl, hb⟩; have G8 := Aside0.mk (Kd.C_below G7.out hb); have C9 := Aside0.mk (Kd.C_below C7.out hb); have B8 := Aside0.mk (below_step B7.out hb); clear hb G7 C7 B7 C8)
    | (go_at_call 16; (with_reducible refine (num_c _ _).mono ?_); rintro e w9 ⟨rfl, rfl⟩)
    | (go_at_call 19; (with_reducible refine (sameA_c G8.out L5.out C9.out).mono ?_); rintro e w9 ⟨rfl, hb⟩; have C10 := Aside0.mk (Kd.C_below C9.out hb); have B9 := Aside0.mk (below_step B8.out hb); clear hb G8 C9 B8)
    | (go_at_call 17; (with_reducible refine (countA_c C10.out).mono ?_); rintro e w10 ⟨rfl, hb⟩; have B10 := Aside0.mk (below_step B9.out hb); clear hb))
  go_ret
  exact ⟨rfl, B10.out⟩
end Go.Proofs.Ytbekfmeaeaghpaa.EInstr
namespace Go.Proofs.Ytbekfmeaeaghpaa.EInstr
open Go Go.RowKit Go.Proofs.Ytbekfmeaeaghpaa.F Go.Proofs.YtbekfmeaeaghpaaW.Hand Go.Proofs.YtbekfmeaeaghpaaW.PrintWords Go.Proofs.YtbekfmeaeaghpaaW.PrintLast Go.Proofs.YtbekfmeaeaghpaaW.PrintMore
open Go.Proofs.YtbekfmeaeaghpaaW.Byt
set_option linter.unusedVariables false
set_option linter.unusedSimpArgs false
theorem get_ok {s : ByteArray} {a a1 : Int} {is : List S44} {n : Nat} (h : pGet s a = .ok (is, a1)) (hn : is.length = n) (hs : s.size ≤ 140737488355328) (W : World) : Calls Try.prog 21 #[.string s, .int .i64 a] W fun e w' => ∃ A c, e = .returned (.tuple #[.slice A n c, .int .i64 a1, .int .i64 0]) ∧ k44.C w' A n is ∧ n ≤ c ∧ Below W.heap.size W w' := by
  have := get_calls (a := a) (W := W) hs
  rw [h] at this
  refine this.mono ?_
  rintro e w' ⟨A, c, rfl, hR, hb⟩
  obtain ⟨A', c', he, hl, hC⟩ := Kd.R_reads hR
  injection he with h1 h2 h3
  subst h1; subst h3
  subst hn
  exact ⟨A, c, rfl, hC, hl, hb⟩
theorem get_er {s : ByteArray} {a c : Int} (h : pGet s a = .error c) (hs : s.size ≤ 140737488355328) (W : World) : Calls Try.prog 21 #[.string s, .int .i64 a] W fun e w' => e = .returned (.tuple #[.slice none 0 0, .int .i64 0, .int .i64 c]) ∧ Below W.heap.size W w' := by
  have := get_calls (a := a) (W := W) hs
  rw [h] at this
  exact this
theorem put_ok {W : World} {is : List S44} {A : Option Addr} {n c : Nat} {S : ByteArray} (hC : k44.C W A n is) (hn : is.length = n) (hc : n ≤ c) (wf : wf64 is) (hm : mayE is = 0) (hS : putS is = S) :
    Calls Try.prog 14 #[.slice A n c] W fun e w' => e = .returned (.tuple #[.string S, .int .i64 0]) ∧ Below W.heap.size W w' := by
  subst hn
  subst hS
  exact put_yes hC hc wf hm
theorem put_er {W : World} {is : List S44} {A : Option Addr} {n c : Nat} {r : Int} (hC : k44.C W A n is) (hn : is.length = n) (hc : n ≤ c) (hm : mayE is = r) (hr : r ≠ 0) :
    Calls Try.prog 14 #[.slice A n c] W fun e w' => e = .returned (.tuple #[.string ByteArray.empty, .int .i64 r]) ∧ Below W.heap.size W w' := by
  subst hn
  subst hm
  exact put_no hC hc hr
theorem same_ok {W : World} {is : List S44} {A B : Option Addr} {n c d : Nat} (hA : k44.C W A n is) (hB : k44.C W B n is) (hn : is.length = n) (hc : n ≤ c) (hd : n ≤ d) :
    Calls Try.prog 19 #[.slice A n c, .slice B n d] W fun e w' => e = .returned (.bool true) ∧ Below W.heap.size W w' := by
  subst hn
  exact ESame.same_size _ is (Nat.le_refl _) W hA hc hB hd
theorem count_ok {W : World} {is : List S44} {A : Option Addr} {n c : Nat} {r : Int} (hC : k44.C W A n is) (hn : is.length = n) (hc : n ≤ c) (hr : (countF is : Int) = r) :
    Calls Try.prog 17 #[.slice A n c] W fun e w' => e = .returned (.int .i64 r) ∧ Below W.heap.size W w' := by
  subst hn
  subst hr
  exact count_calls W is A c hC hc
/-- The first element's cells. -/
theorem at_first {W : World} {A : Option Addr} {n : Nat} {x : S44} {xs : List S44} (h : k44.C W A n (x :: xs)) (hn : 0 < n) : ∃ ad A5 c5 A6 c6 A7 c7, A = some ad ∧ W.cell? ad = some (.int .i64 x.f0) ∧ W.cell? ⟨ad.block, ad.off + 5, none⟩ = some (.slice A5 x.f5.length c5) ∧ W.cell? ⟨ad.block, ad.off + 6, none⟩ = some (.slice A6 x.f6.length c6) ∧ W.cell? ⟨ad.block, ad.off + 7, none⟩ = some (.slice A7 x.f7.length c7) ∧ x.f5.length ≤ c5 ∧ (Kd.int .i64).C W A5 x.f5.length x.f5 := by
  obtain ⟨ad, A5, c5, A6, c6, A7, c7, rfl, z0, z1, z2, z3, z4, z5, z6, z7, l5, C5, l6, C6, l7, C7⟩ := at_T44 h 0 (by omega) (by omega)
  have e : rd_T44 (x :: xs) 0 = x := rfl
  rw [e] at z0 z5 z6 z7 l5 C5
  have ea : ad.add ((0 : Int).toNat * 8) = ad ∨ True := .inr trivial
  refine ⟨ad.add ((0 : Int).toNat * 8), A5, c5, A6, c6, A7, c7, ?_, z0, z5, z6, z7, l5, C5⟩
  obtain ⟨b, o, p⟩ := ad
  cases p <;> simp [Addr.add]
theorem and_1 (x : Int) : Go.bits .and .i64 x 1 = x % 2 := LebMath.and_mask x 1 (by omega) 1 rfl
end Go.Proofs.Ytbekfmeaeaghpaa.EInstr
