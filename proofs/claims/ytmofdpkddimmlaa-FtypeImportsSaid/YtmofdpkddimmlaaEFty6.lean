/-
  FtypeImports: the state, by labels: each slice's blocks bear one label.
-/
import Derived.Test.YtmofdpkddimmlaaEFty5
namespace Go.Proofs.Ytmofdpkddimmlaa.EFty
open Go Go.RowKit Go.Proofs.Ytmofdpkddimmlaa.F Go.Proofs.YtmofdpkddimmlaaW.Hand Go.Proofs.YtmofdpkddimmlaaW.PrintWords Go.Proofs.YtmofdpkddimmlaaW.PrintLast Go.Proofs.YtmofdpkddimmlaaW.PrintMore
set_option linter.unusedVariables false
set_option linter.unusedSimpArgs false
/-- New blocks get the label c. -/
def relab (L : Nat → Nat) (n c : Nat) : Nat → Nat := fun k => if k < n then L k else c
theorem relab_old {L : Nat → Nat} {n c k : Nat} (h : k < n) : relab L n c k = L k := if_pos h
section
variable {α : Type} {d : Kd α} {e : Nat} {W W1 : World} {L : Nat → Nat} {c c' g : Nat} {v : Value} {xs : List α} {S : Nat → Prop}
theorem N_self (h : Kd.N d e W1 0 (fun k => L k = c ∨ W.heap.size ≤ k) v xs) : Kd.N d e W1 0 (fun k => relab L W.heap.size c k = c) v xs := Kd.N_mono h (fun k hk => by
  show (if k < W.heap.size then L k else c) = c
  split
  · rename_i h
    rcases hk with hk | hk
    · exact hk
    · omega
  · rfl)
theorem N_other (h : Kd.N d e W 0 (fun k => L k = c') v xs) (hf : Fr W W1 S) (hS : ∀ k, S k → L k ≠ c') : Kd.N d e W1 0 (fun k => relab L W.heap.size c k = c') v xs :=
  Kd.N_mono (Kd.N_step (Kd.N_bound h) (fun k hk hlt => hf.k.2 k hlt (fun hs => hS k hs hk.1))) (fun k hk => (relab_old hk.2).trans hk.1)
theorem app_fr {w1 : World} (h : Kd.N d e W 0 (fun k => L k = c) v xs) (hb : Below W.heap.size W w1) (hg : w1.grownBy W1 v.ownBlock) : Fr W W1 (fun k => L k = c) := (Fr.of_below hb _).then_ (Fr.grown hg (fun k hk => h.1 k hk)) (fun k hk => .inl hk)
end
def mcells (vT vI vF vG : Value) : Array Value := #[vT, vI, vF, .slice none 0 0, .slice none 0 0, vG, .slice none 0 0, .int .i64 0, .slice none 0 0, .slice none 0 0, .slice none 0 0]
def ccells (a b c d : Nat) : Array Value := #[.int .i64 (a : Int), .int .i64 (b : Int), .int .i64 (c : Int), .int .i64 (d : Int)]
structure St (w W : World) (L : Nat → Nat) (gm gc : Nat) (vT vI vF vG vf vt : Value) (ts : List S36) (imps : List S90) (fs : List Int) (gs : List S93) (fu ty : List Int) (n0 n1 n2 n3 : Nat) : Prop where
  low : ∀ k, k < w.heap.size → L k = 99
  bel : Below w.heap.size w W
  lm : L gm = 0
  m : W.heap[gm]? = some (.cells (mcells vT vI vF vG) 69 (0, 0))
  lc : L gc = 7
  cc : W.heap[gc]? = some (.cells (ccells n0 n1 n2 n3) 86 (0, 0))
  T : Kd.N k36 36 W 0 (fun k => L k = 1) vT ts
  I : Kd.N k90 90 W 0 (fun k => L k = 2) vI imps
  F : Kd.N (Kd.int .i64) 3 W 0 (fun k => L k = 3) vF fs
  G : Kd.N k93 93 W 0 (fun k => L k = 4) vG gs
  f : Kd.N (Kd.int .i64) 3 W 0 (fun k => L k = 5) vf fu
  t : Kd.N (Kd.int .i64) 3 W 0 (fun k => L k = 6) vt ty
section
variable {w W W1 : World} {L : Nat → Nat} {gm gc : Nat} {vT vI vF vG vf vt v1 : Value} {ts : List S36} {imps imps' : List S90} {fs fs' : List Int} {gs gs' : List S93} {fu ty l' : List Int} {n0 n1 n2 n3 : Nat}
theorem St.lows (h : St w W L gm gc vT vI vF vG vf vt ts imps fs gs fu ty n0 n1 n2 n3) (c : Nat) : ∀ k, k < w.heap.size → relab L W.heap.size c k = 99 := fun k hk => (relab_old (Nat.lt_of_lt_of_le hk h.bel.size)).trans (h.low k hk)
theorem St.bels (h : St w W L gm gc vT vI vF vG vf vt ts imps fs gs fu ty n0 n1 n2 n3) {S : Nat → Prop} (hf : Fr W W1 S) (hS : ∀ k, S k → L k ≠ 99) : Below w.heap.size w W1 :=
  ((Fr.of_below h.bel S).then_ hf (fun k hk => .inl hk)).to_below (fun k hk => Nat.le_of_not_lt (fun hlt => hS k hk (h.low k hlt)))
theorem St.call (h : St w W L gm gc vT vI vF vG vf vt ts imps fs gs fu ty n0 n1 n2 n3) (hb : Below W.heap.size W W1) : St w W1 L gm gc vT vI vF vG vf vt ts imps fs gs fu ty n0 n1 n2 n3 :=
  ⟨h.low, below_step h.bel hb, h.lm, blk_below h.m hb, h.lc, blk_below h.cc hb, Kd.N_below h.T hb, Kd.N_below h.I hb, Kd.N_below h.F hb, Kd.N_below h.G hb, Kd.N_below h.f hb, Kd.N_below h.t hb⟩
theorem St.app_f (h : St w W L gm gc vT vI vF vG vf vt ts imps fs gs fu ty n0 n1 n2 n3) (hN : Kd.N (Kd.int .i64) 3 W1 0 (fun k => L k = 5 ∨ W.heap.size ≤ k) v1 l') (hf : Fr W W1 (fun k => L k = 5)) :
    St w W1 (relab L W.heap.size 5) gm gc vT vI vF vG v1 vt ts imps fs gs l' ty n0 n1 n2 n3 :=
  ⟨h.lows 5, h.bels hf (fun k hk => by omega), (relab_old (blk_lt h.m)).trans h.lm, hf.block h.m (fun hk => by have := h.lm; omega), (relab_old (blk_lt h.cc)).trans h.lc, hf.block h.cc (fun hk => by have := h.lc; omega),
   N_other h.T hf (fun k hk => by omega), N_other h.I hf (fun k hk => by omega), N_other h.F hf (fun k hk => by omega), N_other h.G hf (fun k hk => by omega), N_self hN, N_other h.t hf (fun k hk => by omega)⟩
theorem St.app_t (h : St w W L gm gc vT vI vF vG vf vt ts imps fs gs fu ty n0 n1 n2 n3) (hN : Kd.N (Kd.int .i64) 3 W1 0 (fun k => L k = 6 ∨ W.heap.size ≤ k) v1 l') (hf : Fr W W1 (fun k => L k = 6)) :
    St w W1 (relab L W.heap.size 6) gm gc vT vI vF vG vf v1 ts imps fs gs fu l' n0 n1 n2 n3 :=
  ⟨h.lows 6, h.bels hf (fun k hk => by omega), (relab_old (blk_lt h.m)).trans h.lm, hf.block h.m (fun hk => by have := h.lm; omega), (relab_old (blk_lt h.cc)).trans h.lc, hf.block h.cc (fun hk => by have := h.lc; omega),
   N_other h.T hf (fun k hk => by omega), N_other h.I hf (fun k hk => by omega), N_other h.F hf (fun k hk => by omega), N_other h.G hf (fun k hk => by omega), N_other h.f hf (fun k hk => by omega), N_self hN⟩
theorem gm_ne {L : Nat → Nat} {k c : Nat} (hl : L gm = 0) (hk : L k = c ∨ k = gm) (hc : c ≠ 99) : L k ≠ 99 := by rcases hk with hk | rfl <;> omega
theorem gm_ne' {L : Nat → Nat} {k c c' : Nat} (hl : L gm = 0) (hk : L k = c ∨ k = gm) (hc : c ≠ c') (h0 : c' ≠ 0) : L k ≠ c' := by rcases hk with hk | rfl <;> omega
theorem St.app_I (h : St w W L gm gc vT vI vF vG vf vt ts imps fs gs fu ty n0 n1 n2 n3) (hN : Kd.N k90 90 W1 0 (fun k => L k = 2 ∨ W.heap.size ≤ k) v1 imps') (hm : W1.heap[gm]? = some (.cells (mcells vT v1 vF vG) 69 (0, 0))) (hf : Fr W W1 (fun k => L k = 2 ∨ k = gm)) :
    St w W1 (relab L W.heap.size 2) gm gc vT v1 vF vG vf vt ts imps' fs gs fu ty n0 n1 n2 n3 :=
  ⟨h.lows 2, h.bels hf (fun k hk => gm_ne h.lm hk (by decide)), (relab_old (blk_lt h.m)).trans h.lm, hm, (relab_old (blk_lt h.cc)).trans h.lc, hf.block h.cc (fun hk => gm_ne' (c' := 7) h.lm hk (by decide) (by decide) h.lc),
   N_other h.T hf (fun k hk => gm_ne' h.lm hk (by decide) (by decide)), N_self hN, N_other h.F hf (fun k hk => gm_ne' h.lm hk (by decide) (by decide)), N_other h.G hf (fun k hk => gm_ne' h.lm hk (by decide) (by decide)), N_other h.f hf (fun k hk => gm_ne' h.lm hk (by decide) (by decide)), N_other h.t hf (fun k hk => gm_ne' h.lm hk (by decide) (by decide))⟩
theorem St.app_F (h : St w W L gm gc vT vI vF vG vf vt ts imps fs gs fu ty n0 n1 n2 n3) (hN : Kd.N (Kd.int .i64) 3 W1 0 (fun k => L k = 3 ∨ W.heap.size ≤ k) v1 fs') (hm : W1.heap[gm]? = some (.cells (mcells vT vI v1 vG) 69 (0, 0))) (hf : Fr W W1 (fun k => L k = 3 ∨ k = gm)) :
    St w W1 (relab L W.heap.size 3) gm gc vT vI v1 vG vf vt ts imps fs' gs fu ty n0 n1 n2 n3 :=
  ⟨h.lows 3, h.bels hf (fun k hk => gm_ne h.lm hk (by decide)), (relab_old (blk_lt h.m)).trans h.lm, hm, (relab_old (blk_lt h.cc)).trans h.lc, hf.block h.cc (fun hk => gm_ne' (c' := 7) h.lm hk (by decide) (by decide) h.lc),
   N_other h.T hf (fun k hk => gm_ne' h.lm hk (by decide) (by decide)), N_other h.I hf (fun k hk => gm_ne' h.lm hk (by decide) (by decide)), N_self hN, N_other h.G hf (fun k hk => gm_ne' h.lm hk (by decide) (by decide)), N_other h.f hf (fun k hk => gm_ne' h.lm hk (by decide) (by decide)), N_other h.t hf (fun k hk => gm_ne' h.lm hk (by decide) (by decide))⟩
theorem St.app_G (h : St w W L gm gc vT vI vF vG vf vt ts imps fs gs fu ty n0 n1 n2 n3) (hN : Kd.N k93 93 W1 0 (fun k => L k = 4 ∨ W.heap.size ≤ k) v1 gs') (hm : W1.heap[gm]? = some (.cells (mcells vT vI vF v1) 69 (0, 0))) (hf : Fr W W1 (fun k => L k = 4 ∨ k = gm)) :
    St w W1 (relab L W.heap.size 4) gm gc vT vI vF v1 vf vt ts imps fs gs' fu ty n0 n1 n2 n3 :=
  ⟨h.lows 4, h.bels hf (fun k hk => gm_ne h.lm hk (by decide)), (relab_old (blk_lt h.m)).trans h.lm, hm, (relab_old (blk_lt h.cc)).trans h.lc, hf.block h.cc (fun hk => gm_ne' (c' := 7) h.lm hk (by decide) (by decide) h.lc),
   N_other h.T hf (fun k hk => gm_ne' h.lm hk (by decide) (by decide)), N_other h.I hf (fun k hk => gm_ne' h.lm hk (by decide) (by decide)), N_other h.F hf (fun k hk => gm_ne' h.lm hk (by decide) (by decide)), N_self hN, N_other h.f hf (fun k hk => gm_ne' h.lm hk (by decide) (by decide)), N_other h.t hf (fun k hk => gm_ne' h.lm hk (by decide) (by decide))⟩
theorem St.count (h : St w W L gm gc vT vI vF vG vf vt ts imps fs gs fu ty n0 n1 n2 n3) {m0 m1 m2 m3 : Nat} (hc : W1.heap[gc]? = some (.cells (ccells m0 m1 m2 m3) 86 (0, 0))) (hf : Fr W W1 (fun k => k = gc)) :
    St w W1 L gm gc vT vI vF vG vf vt ts imps fs gs fu ty m0 m1 m2 m3 :=
  ⟨h.low, h.bels hf (fun k hk => by rw [hk, h.lc]; decide), h.lm, hf.block h.m (fun hk => by have := h.lm; rw [hk, h.lc] at this; exact absurd this (by decide)), h.lc, hc,
   st h.T hf h.lc (by decide), st h.I hf h.lc (by decide), st h.F hf h.lc (by decide), st h.G hf h.lc (by decide), st h.f hf h.lc (by decide), st h.t hf h.lc (by decide)⟩
where st {α : Type} {d : Kd α} {e : Nat} {W W1 : World} {L : Nat → Nat} {c' gc : Nat} {v : Value} {xs : List α} (h : Kd.N d e W 0 (fun k => L k = c') v xs) (hf : Fr W W1 (fun k => k = gc)) (hl : L gc = 7) (hc : c' ≠ 7) : Kd.N d e W1 0 (fun k => L k = c') v xs :=
    Kd.N_step h (fun k hk hlt => hf.k.2 k hlt (fun hs => hc (by rw [← hk, hs, hl])))
end
end Go.Proofs.Ytmofdpkddimmlaa.EFty
