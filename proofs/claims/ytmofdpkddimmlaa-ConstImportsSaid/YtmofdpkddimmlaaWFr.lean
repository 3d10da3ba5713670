/-
  Words for states behind pointers: what a call leaves as it was (Fr), steps of a region that draws its order.
-/
import Derived.Test.YtmofdpkddimmlaaWHand2
set_option linter.unusedVariables false
set_option linter.unusedSimpArgs false
namespace Go.Proofs.YtmofdpkddimmlaaW.Hand
open Go Go.RowKit Go.Proofs.YtmofdpkddimmlaaW.PrintWords Go.Proofs.YtmofdpkddimmlaaW.PrintLast Go.Proofs.YtmofdpkddimmlaaW.PrintMore
/-- All is as it was but the blocks of S, and what is new since. -/
structure Fr (w w' : World) (S : Nat → Prop) : Prop where
  b : Below 0 w w'
  k : Kept w w' S
section
variable {w w1 w2 W : World} {S S2 : Nat → Prop} {B : Nat}
theorem Below.zero (h : Below B w w1) (hs : w.heap.size ≤ w1.heap.size) : Below 0 w w1 := ⟨h.os, h.tape, h.output, hs, fun i hi => absurd hi (by omega)⟩
theorem Fr.refl (w : World) (S : Nat → Prop) : Fr w w S := ⟨Below.refl _ _, Kept.refl _ _⟩
theorem Fr.of_below (h : Below w.heap.size w w1) (S : Nat → Prop) : Fr w w1 S := ⟨Below.zero h h.size, Kept.of_below h S⟩
theorem Fr.mono (h : Fr w w1 S) (hs : ∀ k, S k → S2 k) : Fr w w1 S2 := ⟨h.b, h.k.mono hs⟩
theorem Fr.then_ (h : Fr w w1 S) (k : Fr w1 w2 S2) (hs : ∀ k, S2 k → S k ∨ w.heap.size ≤ k) : Fr w w2 S :=
  ⟨⟨k.b.os.trans h.b.os, k.b.tape.trans h.b.tape, k.b.output.trans h.b.output, Nat.le_trans h.b.size k.b.size, fun i hi => absurd hi (by omega)⟩, h.k.then_ k.k hs⟩
theorem Fr.below (h : Fr w w1 S) (hb : Below w1.heap.size w1 w2) : Fr w w2 S := h.then_ (Fr.of_below hb (fun _ => False)) (fun _ hk => hk.elim)
theorem Fr.to_below (h : Fr w w1 S) (hs : ∀ k, S k → w.heap.size ≤ k) : Below w.heap.size w w1 := ⟨h.b.os, h.b.tape, h.b.output, h.b.size, fun i hi => h.k.2 i hi (fun hk => by have := hs i hk; omega)⟩
theorem Fr.grown {row : Option Nat} (hg : w.grownBy w1 row) (hr : ∀ k, row = some k → S k) : Fr w w1 S :=
  ⟨⟨hg.os, hg.tape, hg.output, hg.size, fun i hi => absurd hi (by omega)⟩, ⟨hg.size, fun i hi hn => hg.block i hi (fun e => hn (hr i e.symm))⟩⟩
theorem Fr.block (h : Fr w w1 S) {k : Nat} {o : Obj} (hk : w.heap[k]? = some o) (hn : ¬ S k) : w1.heap[k]? = some o := (h.k.2 k (blk_lt hk) hn).trans hk
theorem Fr.size (h : Fr w w1 S) : w.heap.size ≤ w1.heap.size := h.k.1
theorem Fr.drew (h : Fr w w1 S) : Fr w w1.drew S := h.below (below_drew (Below.refl _ _))
theorem Fr.refl_drew (w : World) (S : Nat → Prop) : Fr w w.drew S := (Fr.refl w S).drew
/-- A store into block g. -/
theorem Fr.stored {g : Nat} (hb : ∀ B wb, B ≤ g → Below B wb w → Below B wb w1) (ho : ∀ k, k ≠ g → w1.heap[k]? = w.heap[k]?) (hs : w1.heap.size = w.heap.size) (hS : S g) : Fr w w1 S :=
  ⟨hb 0 w (Nat.zero_le _) (Below.refl _ _), ⟨Nat.le_of_eq hs.symm, fun i hi hn => ho i (fun e => hn (e ▸ hS))⟩⟩
end
section
variable {P : Program} {ops : Array Oper} {o : Oper} {a : Act} {Q : Exit → Act → World → Prop} {Kc : Act → World → Prop}
theorem lit_step {W : World} (hw : Region.wanted o (yielded ops a.tmps) = true) {N : Tmp} (_hd : o.dst = some N) {cs : Array Value} {t : TypeId} {n : Nat}
    (hrun : (execOp a.eval o).run P W = .ok (.value (.slice (some ⟨W.heap.size, 0, none⟩) n n)) (W.alloc (.cells cs t (0, 0))))
    (h : ∀ g, g = W.heap.size → ∀ w1, w1.heap[g]? = some (.cells cs t (0, 0)) → Below W.heap.size W w1 → Kc (a.put o.dst (.slice (some ⟨g, 0, none⟩) n n)) w1) : if Region.wanted o (yielded ops a.tmps) = true then Oper.wp P o a W Kc Q else Kc (a.put o.dst undef) W :=
  event_step hw hrun (h _ rfl _ (blk_new W _) (below_alloc (Below.refl _ _) _))
theorem storeCell_step {W : World} {g j : Nat} {x : Value} (hw : Region.wanted o (yielded ops a.tmps) = true) {t : TypeId} {p v : Operand} (ho : o.op = .store t p v) (hN : o.dst = none) {cs : Array Value} {T : TypeId}
    (hp : a.eval p = .pointer (some ⟨g, j, none⟩)) (hv : a.eval v = x) (hg : W.heap[g]? = some (.cells cs T (0, 0))) (hj : j < cs.size) (hi : (P.info? t).map (·.size) = some 1) (h1 : x.oneCell' = true)
    (h : ∀ w', w'.heap[g]? = some (.cells (cs.setIfInBounds j x) T (0, 0)) → (∀ B wb, B ≤ g → Below B wb W → Below B wb w') → (∀ k, k ≠ g → w'.heap[k]? = W.heap[k]?) → w'.heap.size = W.heap.size → Kc a w') : if Region.wanted o (yielded ops a.tmps) = true then Oper.wp P o a W Kc Q else Kc (a.put none undef) W := by
  refine skip_ hw hN (w1 := W.setCell ⟨g, j, none⟩ x) ?_ ?_
  · have hs := run_storeVar_one (P := P) hg hj hi h1
    rw [setCells_one] at hs
    have hsa : (Instr.storeAt t (.pointer (some ⟨g, j, none⟩)) x).run P W = .ok () (W.setCell ⟨g, j, none⟩ x) := by
      unfold Instr.storeAt
      have ha : (Instr.sureAddr (.pointer (some ⟨g, j, none⟩))).run P W = .ok ⟨g, j, none⟩ W := by simp [Instr.sureAddr, go_sem]
      rw [Sem.run_bind, ha]
      exact hs
    unfold execOp
    rw [ho]
    simp only [hp, hv]
    rw [Sem.run_bind, hsa]
    rfl
  · exact h _ (blk_set hg j x) (fun B wb hB hb => hb.setCell hB x) (fun k hk => Below.heap_setCell W ⟨g, j, none⟩ x k hk) (by simp [World.setCell])
theorem R_store_step {α : Type} (d : Kd α) {w0 W : World} (base : Nat) (hN : o.dst = none) (hw : Region.wanted o (yielded ops a.tmps) = true) (t : TypeId) (p x : Operand) (ho : o.op = .store t p x) (e : TypeId) {g n cap o' : Nat} (i : Int) (j : Nat) (xs : List α) (x' : α) (u : Value) (seg c : List Value) (ok okp : Nat → Prop)
    (haddr : a.eval p = .pointer (some ⟨g, o', none⟩)) (hoff : o' = i.toNat * d.sz + j) (hx : a.eval x = u) (hu : u.cells.toList = seg) (ht : (P.info? t).map (·.size) = some seg.length) (h1 : ∀ q ∈ seg, q.oneCell' = true)
    (HO : d.R e W base ok (.slice (some ⟨g, 0, none⟩) n cap) xs) (h0 : 0 ≤ i) (hi : i < n) (hcl : c.length = d.sz) (hcc : ∀ j u, c[j]? = some u → W.cell? ⟨g, i.toNat * d.sz + j, none⟩ = some u)
    (hj : j + seg.length ≤ d.sz) (hM : d.M W base okp x' (c.take j ++ seg ++ c.drop (j + seg.length))) (hokp : ∀ k, okp k → ok k ∧ k ≠ g)
    (h : ∀ w1, d.R e w1 base ok (.slice (some ⟨g, 0, none⟩) n cap) (xs.set i.toNat x') → W.grownBy w1 (some g) → w1.heap.size = W.heap.size → Kc a w1) : if Region.wanted o (yielded ops a.tmps) = true then Oper.wp P o a W Kc Q else Kc (a.put none undef) W := by
  subst hoff
  obtain ⟨hrow, hg⟩ := Kd.R_seg HO i h0 hi hcl hcc hj hM hokp
  have hnx : n = xs.length := (Kd.R_reads' HO).1
  obtain ⟨_, inner, hown, hr⟩ := HO
  have hil : i.toNat < n := by omega
  have hrun : (Instr.storeAt t (.pointer (some ⟨g, i.toNat * d.sz + j, none⟩)) u).run P W = .ok () (W.setCells g (i.toNat * d.sz + j) seg) := by
    rcases hown.2 with ⟨hv, _⟩ | ⟨g', cap', cur, hv, hb, hh, hnc, hcm, hcs, _⟩
    · cases hv
    injection hv with ha _ hc
    injection ha with ha
    injection ha with hg'
    subst hg'; subst hc
    refine run_store_run t u seg hh hu ht ?_ h1
    have h2 : i.toNat * d.sz + d.sz ≤ n * d.sz := by rw [← Nat.succ_mul]; exact Nat.mul_le_mul_right _ hil
    have h3 : n * d.sz ≤ cap * d.sz := Nat.mul_le_mul_right _ (by omega)
    omega
  refine skip_ hw hN (w1 := W.setCells g (i.toNat * d.sz + j) seg) ?_ (h _ hrow hg (setCells_same _ _ _ _).2.2.2)
  unfold execOp
  rw [ho]
  simp only [haddr, hx]
  rw [Sem.run_bind, hrun]
  rfl
end
end Go.Proofs.YtmofdpkddimmlaaW.Hand
