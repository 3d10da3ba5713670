/-
  Both globals beside an act, and what its calls leave.
-/
import Derived.Test.YtddfoogbakiojaaEGlobUni
import Derived.Test.YtddfoogbakiojaaEGlobAwake
import Derived.Test.YtddfoogbakiojaaESpoil
namespace Go.Proofs.Ytddfoogbakiojaa.EGlob
open Go Go.RowKit Go.Proofs.Ytddfoogbakiojaa.F Go.Proofs.Ytddfoogbakiojaa.PureVals Go.Proofs.YtddfoogbakiojaaW.Hand Go.Proofs.YtddfoogbakiojaaW.PrintWords Go.Proofs.YtddfoogbakiojaaW.PrintLast Go.Proofs.YtddfoogbakiojaaW.PrintMore
set_option linter.unusedVariables false
set_option linter.unusedSimpArgs false
structure Act where
  kind : Int
  k : Int
  ty : Int
  bits : Int
  mt : Bool
def kA : Kd Act := Kd.iso (Kd.pair (Kd.int .i64) (Kd.pair (Kd.int .i64) (Kd.pair (Kd.pair (Kd.int .i64) (Kd.int .i64)) Kd.bool))) (fun a : Act => (a.kind, a.k, (a.ty, a.bits), a.mt))
theorem kA_open {w : World} {a : Act} {cs : List Value} (h : kA.K w a cs) : cs = [.int .i64 a.kind, .int .i64 a.k, .int .i64 a.ty, .int .i64 a.bits, .bool a.mt] := by
  obtain ⟨c0, r0, rfl, h0, c1, r1, rfl, h1, c2, r2, rfl, ⟨c3, r3, rfl, h3, h4⟩, h2⟩ := h
  obtain rfl := h0
  obtain rfl := h1
  obtain rfl := h2
  obtain rfl := h3
  obtain rfl := h4
  rfl
def zA : Act := ⟨0, 0, 0, 0, false⟩
def rdA (xs : List Act) (i : Int) : Act := xs.getD i.toNat zA
theorem at_A {w : World} {A : Option Addr} {n : Nat} {xs : List Act} (h : Kd.C kA w A n xs) (i : Int) (h0 : 0 ≤ i) (h1 : i < n) : ∃ ad, A = some ad ∧ w.cell? (ad.add (i.toNat * 5)) = some (.int .i64 (rdA xs i).kind) ∧ w.cell? ⟨(ad.add (i.toNat * 5)).block, (ad.add (i.toNat * 5)).off + 1, none⟩ = some (.int .i64 (rdA xs i).k) ∧ w.cell? ⟨(ad.add (i.toNat * 5)).block, (ad.add (i.toNat * 5)).off + 2, none⟩ = some (.int .i64 (rdA xs i).ty) ∧ w.cell? ⟨(ad.add (i.toNat * 5)).block, (ad.add (i.toNat * 5)).off + 3, none⟩ = some (.int .i64 (rdA xs i).bits) ∧ w.cell? ⟨(ad.add (i.toNat * 5)).block, (ad.add (i.toNat * 5)).off + 4, none⟩ = some (.bool (rdA xs i).mt) := by
  obtain ⟨ad, c, e, _, hK, hc0⟩ := Kd.C_get h zA i h0 h1
  have hc : ∀ j u, c[j]? = some u → w.cell? (ad.add (i.toNat * 5 + j)) = some u := hc0
  obtain rfl := kA_open hK
  exact ⟨ad, e, hc 0 _ rfl, by rw [← add_field _ _ 1 (by omega)]; exact hc 1 _ rfl, by rw [← add_field _ _ 2 (by omega)]; exact hc 2 _ rfl, by rw [← add_field _ _ 3 (by omega)]; exact hc 3 _ rfl, by rw [← add_field _ _ 4 (by omega)]; exact hc 4 _ rfl⟩
theorem C_len {W : World} {A : Option Addr} {xs : List Gl} (h : k29.C W A (xs.map valOf).length (xs.map valOf)) : k29.C W A xs.length (xs.map valOf) := by
  rw [List.length_map] at h
  exact h
/-- An act in its box. -/
def Bx (W : World) (g6 : Nat) (a : Act) : Prop := W.heap[g6]? = some (.cells #[.int .i64 a.kind, .int .i64 a.k, .int .i64 a.ty, .int .i64 a.bits, .bool a.mt] 42 (0, 0))
/-- Both globals, and an act in its box beside them. -/
def Three (w0 W : World) (g r : Nat) (xs ys : List Gl) (g6 : Nat) (a : Act) : Prop := ∃ S T, Two w0 W g r S T xs ys ∧ ¬ S g6 ∧ ¬ T g6 ∧ Bx W g6 a
section
variable {w0 W W1 : World} {g r g6 : Nat} {xs ys : List Gl} {a : Act} {x y k : Int} {m : Bool}
theorem Three.below (h : Three w0 W g r xs ys g6 a) (hb : Below W.heap.size W W1) : Three w0 W1 g r xs ys g6 a := by
  obtain ⟨S, T, h1, h2, h3, h4⟩ := h
  exact ⟨S, T, h1.below hb, h2, h3, blk_below h4 hb⟩
theorem Three.bx (h : Three w0 W g r xs ys g6 a) : Bx W g6 a := by
  obtain ⟨S, T, h1, h2, h3, h4⟩ := h
  exact h4
theorem Three.two (h : Three w0 W g r xs ys g6 a) : ∃ S T, Two w0 W g r S T xs ys := by
  obtain ⟨S, T, h1, h2, h3, h4⟩ := h
  exact ⟨S, T, h1⟩
theorem t_add (h : Three w0 W g r xs ys g6 a) (hb : Below w0.heap.size w0 W) : Calls Try.prog 25 #[.pointer (some ⟨g, 0, none⟩), .agg #[.int .i64 x, .int .i64 y], .bool m] W fun e W' => e = .returned (.int .i64 (addE xs x y)) ∧ Three w0 W' g r (addL xs x y m) ys g6 a ∧ Below w0.heap.size w0 W' := by
  obtain ⟨S, T, h1, h2, h3, h4⟩ := h
  refine (add_calls h1.gs).mono fun e W' ⟨he, hg, hf⟩ => ⟨he, ⟨_, T, h1.atG hg hf, fun hh => hh.1.elim h2 (fun hl => by have := blk_lt h4; omega), h3, hf.block h4 h2⟩, h1.fr_below hb (fun k hk => (h1.sn k hk).1) hf⟩
theorem t_radd (h : Three w0 W g r xs ys g6 a) (hb : Below w0.heap.size w0 W) : Calls Try.prog 29 #[.pointer (some ⟨r, 0, none⟩), .agg #[.int .i64 x, .int .i64 y], .bool m] W fun e W' => e = .returned (.int .i64 (addE ys x y)) ∧ Three w0 W' g r xs (addL ys x y m) g6 a ∧ Below w0.heap.size w0 W' := by
  obtain ⟨S, T, h1, h2, h3, h4⟩ := h
  refine (radd_calls h1.rs).mono fun e W' ⟨he, hg, hf⟩ => ⟨he, ⟨S, _, h1.atR hg hf, h2, fun hh => hh.1.elim h3 (fun hl => by have := blk_lt h4; omega), hf.block h4 h3⟩, h1.fr_below hb (fun k hk => (h1.tn k hk).1) hf⟩
theorem t_set (h : Three w0 W g r xs ys g6 a) (hb : Below w0.heap.size w0 W) : Calls Try.prog 26 #[.pointer (some ⟨g, 0, none⟩), .int .i64 k, .agg #[.int .i64 x, .int .i64 y]] W fun e W' => e = .returned (.int .i64 (setE xs k x y)) ∧ Three w0 W' g r (setL xs k x y) ys g6 a ∧ Below w0.heap.size w0 W' := by
  obtain ⟨S, T, h1, h2, h3, h4⟩ := h
  refine (set_calls h1.gs).mono fun e W' ⟨he, hg, hf⟩ => ⟨he, ⟨_, T, h1.atG hg hf, fun hh => hh.1.elim h2 (fun hl => by have := blk_lt h4; omega), h3, hf.block h4 h2⟩, h1.fr_below hb (fun k hk => (h1.sn k hk).1) hf⟩
theorem t_rset (h : Three w0 W g r xs ys g6 a) (hb : Below w0.heap.size w0 W) : Calls Try.prog 30 #[.pointer (some ⟨r, 0, none⟩), .int .i64 k, .agg #[.int .i64 x, .int .i64 y]] W fun e W' => e = .returned (.int .i64 (setE ys k x y)) ∧ Three w0 W' g r xs (setL ys k x y) g6 a ∧ Below w0.heap.size w0 W' := by
  obtain ⟨S, T, h1, h2, h3, h4⟩ := h
  refine (rset_calls h1.rs).mono fun e W' ⟨he, hg, hf⟩ => ⟨he, ⟨S, _, h1.atR hg hf, h2, fun hh => hh.1.elim h3 (fun hl => by have := blk_lt h4; omega), hf.block h4 h3⟩, h1.fr_below hb (fun k hk => (h1.tn k hk).1) hf⟩
theorem t_get (h : Three w0 W g r xs ys g6 a) : Calls Try.prog 27 #[.pointer (some ⟨g, 0, none⟩), .int .i64 k] W fun e W' => e = .returned (.tuple #[.agg #[.int .i64 (getT xs k), .int .i64 (getB xs k)], .int .i64 (getE xs k)]) ∧ Below W.heap.size W W' := by
  obtain ⟨S, T, h1, h2, h3, h4⟩ := h
  exact get_calls h1.gs
theorem t_rget (h : Three w0 W g r xs ys g6 a) : Calls Try.prog 31 #[.pointer (some ⟨r, 0, none⟩), .int .i64 k] W fun e W' => e = .returned (.tuple #[.agg #[.int .i64 (getT ys k), .int .i64 (getB ys k)], .int .i64 (getE ys k)]) ∧ Below W.heap.size W W' := by
  obtain ⟨S, T, h1, h2, h3, h4⟩ := h
  exact rget_calls h1.rs
theorem two_all {S T : Nat → Prop} (h : Two w0 W g r S T xs ys) (hl : xs.length ≤ 1024) : Calls Try.prog 32 #[.pointer (some ⟨g, 0, none⟩)] W fun e W' => ∃ A c, e = .returned (.slice A xs.length c) ∧ k29.R 29 W' W.heap.size (fun k => W.heap.size ≤ k) (.slice A xs.length c) (xs.map valOf) ∧ Below W.heap.size W W' := by
  refine (all_calls h.gs hl).mono fun e W' ⟨v, he, hR, hb⟩ => ?_
  obtain ⟨A, c, hv⟩ := Kd.R_slice hR
  rw [List.length_map] at hv
  subst hv
  exact ⟨A, c, he, Kd.R_mono (Kd.R_bound hR) (fun k hk => hk.2.1), hb⟩
/-- The document's values, read. -/
theorem two_v {S T : Nat → Prop} (h : Two w0 W g r S T xs ys) : ∃ B c, W.cell? ⟨r, 0, none⟩ = some (.slice B ys.length c) ∧ ys.length ≤ c ∧ k29.C W B ys.length (ys.map valOf) := by
  obtain ⟨v, u, h1, h2, h3, h4⟩ := h.rs
  obtain ⟨B, c, rfl, hc, hC⟩ := Kd.R_reads h3
  rw [List.length_map] at hc hC
  exact ⟨B, c, by rw [blk_cell h1]; simp, hc, hC⟩
theorem same_calls {A B : Option Addr} {n c d : Nat} {vs : List S29} (hn : vs.length = n) (h1 : k29.C W A n vs) (hc : n ≤ c) (h2 : k29.C W B n vs) (hd : n ≤ d) : Calls Try.prog 33 #[.slice A n c, .slice B n d] W fun e W' => e = .returned (.bool true) ∧ Below W.heap.size W W' := by
  subst hn
  obtain ⟨k, hk⟩ := (sameVals_ev vs vs (Kd.C_max h1)).rounds
  simp only [decide_true] at hk
  exact (peloruslaw0_SameVals.calls k _ _ _ _ _ _ _ W h1 hc h2 hd hk).mono fun _ _ hh => ⟨hh.1, by first | exact hh.2 | exact hh.2.below⟩
end
end Go.Proofs.Ytddfoogbakiojaa.EGlob
