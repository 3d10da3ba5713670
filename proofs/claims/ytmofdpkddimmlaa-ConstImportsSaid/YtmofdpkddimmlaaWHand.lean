/-
  Words for walks by hand: one operation at a time, the blocks told as facts.
-/
import Derived.Test.YtmofdpkddimmlaaWMore
import Derived.Laws.CopyOwn
namespace Go.Proofs.YtmofdpkddimmlaaW.Hand
open Go Go.RowKit Go.Proofs.YtmofdpkddimmlaaW.PrintWords Go.Proofs.YtmofdpkddimmlaaW.PrintLast Go.Proofs.YtmofdpkddimmlaaW.PrintMore
/-- A goal that the walk leaves as it is. -/
structure Held (p : Prop) : Prop where
  out : p
theorem hold {p : Prop} (h : Held p) : p := h.out
section
variable {P : Program} {ops : Array Oper} {rest : List Oper} {o : Oper} {a : Act} {Q : Exit → Act → World → Prop}
/-- A literal '[]T{..}' lies in a block of its own. -/
theorem lit_event {W : World} (hgd : o.guard = none) {N : Tmp} (_hd : o.dst = some N) {cs : Array Value} {t : TypeId} {n : Nat}
    (hrun : (execOp a.eval o).run P W = .ok (.value (.slice (some ⟨W.heap.size, 0, none⟩) n n)) (W.alloc (.cells cs t (0, 0))))
    (h : ∀ g, g = W.heap.size → ∀ w1, w1.heap[g]? = some (.cells cs t (0, 0)) → Below W.heap.size W w1 → wpList P ops Q rest (a.put o.dst (.slice (some ⟨g, 0, none⟩) n n)) w1) : wpList P ops Q (o :: rest) a W :=
  Kd.event_run hgd hrun (h _ rfl _ (blk_new W _) (below_alloc (Below.refl _ _) _))
/-- A whole struct or array stored into a block of its own. -/
theorem storeRow_event {W : World} {g : Nat} (hgd : o.guard = none) {t : TypeId} {p v : Operand} (ho : o.op = .store t p v) (hN : o.dst = none) {cs0 cs : Array Value}
    (hp : a.eval p = .pointer (some ⟨g, 0, none⟩)) (hv : a.eval v = .agg cs) (hg : W.heap[g]? = some (.cells cs0 t (0, 0))) (hi : (P.info? t).map (·.size) = some cs.size) (hs : cs0.size = cs.size) (h1 : cs.all (·.oneCell') = true)
    (h : ∀ w', w'.heap[g]? = some (.cells cs t (0, 0)) → (∀ B wb, B ≤ g → Below B wb W → Below B wb w') → (∀ k, k ≠ g → w'.heap[k]? = W.heap[k]?) → w'.heap.size = W.heap.size → wpList P ops Q rest a w') : wpList P ops Q (o :: rest) a W := by
  have hrun : (execOp a.eval o).run P W = .ok .skip (W.setRow g cs) := by
    have hs := run_storeVar_row (P := P) W g t t cs0 cs hg hi hs h1
    have hsa : (Instr.storeAt t (.pointer (some ⟨g, 0, none⟩)) (.agg cs)).run P W = .ok () (W.setRow g cs) := by
      unfold Instr.storeAt
      have ha : (Instr.sureAddr (.pointer (some ⟨g, 0, none⟩))).run P W = .ok ⟨g, 0, none⟩ W := by simp [Instr.sureAddr, go_sem]
      rw [Sem.run_bind, ha]
      exact hs
    unfold execOp
    rw [ho]
    simp only [hp, hv]
    rw [Sem.run_bind, hsa]
    rfl
  refine wpList_plain hgd fun K hK => ?_
  unfold Oper.wp
  rw [hrun]
  show K (a.put o.dst undef) _
  rw [hN]
  refine hK _ _ (h _ (setRow_heap _ _ _ _ _ _ hg) (fun B wb hB hb => below_setRow hb hB cs) (fun k hk => ?_) ?_)
  · exact setRow_other _ _ _ _ hk
  · exact setRow_size _ _ _
end
end Go.Proofs.YtmofdpkddimmlaaW.Hand
