/-
  More words for walks by hand: one cell stored into a block, literals that lead to what is only read.
-/
import Derived.Test.YtmofdpkddimmlaaWHand
import Derived.Laws.IdiomCopy
namespace Go.Proofs.YtmofdpkddimmlaaW.Hand
open Go Go.RowKit Go.Proofs.YtmofdpkddimmlaaW.PrintWords Go.Proofs.YtmofdpkddimmlaaW.PrintLast Go.Proofs.YtmofdpkddimmlaaW.PrintMore
section
variable {P : Program} {ops : Array Oper} {rest : List Oper} {o : Oper} {a : Act} {Q : Exit → Act → World → Prop}
theorem cells_one {x : Value} (h1 : x.oneCell' = true) : x.cells = #[x] := by cases x <;> first | rfl | (simp [Value.oneCell'] at h1)
theorem run_storeVar_one {W : World} {g j : Nat} {cs : Array Value} {T t : TypeId} {x : Value} (hg : W.heap[g]? = some (.cells cs T (0, 0))) (hj : j < cs.size) (hi : (P.info? t).map (·.size) = some 1) (h1 : x.oneCell' = true) :
    (storeVar t ⟨g, j, none⟩ x).run P W = .ok () (W.setCells g j [x]) := by
  have := run_storeCells_cells (P := P) g j [x] 0 W (fun i hi => by
      obtain rfl : i = 0 := by simpa using hi
      simp only [Nat.add_zero]
      rw [blk_cell hg]; simp [hj])
    (fun i _ => blk_frozen hg _) (fun v hv => by rw [List.mem_singleton.1 hv]; exact h1)
  cases hq : P.info? t with
  | none => simp [hq] at hi
  | some i =>
    have hs : 1 = i.size := by simp [hq] at hi; omega
    simp only [Nat.add_zero] at this
    simp [storeVar, sizeOf, typeInfo, hq, cells_one h1, ← hs, this]
theorem setCells_one (W : World) (g j : Nat) (x : Value) : W.setCells g j [x] = W.setCell ⟨g, j, none⟩ x := by simp [World.setCells]
/-- One cell of a block stored. -/
theorem storeCell_event {W : World} {g j : Nat} {x : Value} (hgd : o.guard = none) {t : TypeId} {p v : Operand} (ho : o.op = .store t p v) (hN : o.dst = none) {cs : Array Value} {T : TypeId}
    (hp : a.eval p = .pointer (some ⟨g, j, none⟩)) (hv : a.eval v = x) (hg : W.heap[g]? = some (.cells cs T (0, 0))) (hj : j < cs.size) (hi : (P.info? t).map (·.size) = some 1) (h1 : x.oneCell' = true)
    (h : ∀ w', w'.heap[g]? = some (.cells (cs.setIfInBounds j x) T (0, 0)) → (∀ B wb, B ≤ g → Below B wb W → Below B wb w') → (∀ k, k ≠ g → w'.heap[k]? = W.heap[k]?) → w'.heap.size = W.heap.size → wpList P ops Q rest a w') : wpList P ops Q (o :: rest) a W := by
  have hrun : (execOp a.eval o).run P W = .ok .skip (W.setCell ⟨g, j, none⟩ x) := by
    have hs := run_storeVar_one (P := P) hg hj hi h1
    rw [setCells_one] at hs
    have hsa : (Instr.storeAt t (.pointer (some ⟨g, j, none⟩)) x).run P W = .ok () (W.setCell ⟨g, j, none⟩ x) := by
      unfold Instr.storeAt
      have ha : (Instr.sureAddr (.pointer (some ⟨g, j, none⟩))).run P W = .ok ⟨g, j, none⟩ W := by simp [Instr.sureAddr, go_sem]
      rw [Sem.run_bind, ha]
      exact hs
    unfold execOp
    rw [ho]
    simp only [hp, hv]
    rw [Sem.run_bind, hsa]
    rfl
  refine wpList_plain hgd fun K hK => ?_
  unfold Oper.wp
  rw [hrun]
  show K (a.put o.dst undef) _
  rw [hN]
  exact hK _ _ (h _ (blk_set hg j x) (fun B wb hB hb => hb.setCell hB x) (fun k hk => Below.heap_setCell W ⟨g, j, none⟩ x k hk) (by simp [World.setCell]))
end
end Go.Proofs.YtmofdpkddimmlaaW.Hand
