/-
  What the claim leans on, cut to what is used (wip/tools/prune15.py): words, printed functions, walks.
-/
import Derived.Test.YtkdoijfjceeblaaDoorQW1
import Derived.Laws.CopyOwn
import Derived.Laws.IdiomCopy
import Derived.Laws.IdiomStrings
import Derived.Laws.BytesArg
import Derived.ArgAppend
import Derived.RangeFuncFrom
import Derived.RangeFuncSeq
import Derived.RangeFuncBound
import Derived.RegionIn
import Derived.RangeFuncCalls
namespace Go.Proofs.YtkdoijfjceeblaaDoorW.Hand
open Go Go.RowKit Go.Proofs.YtkdoijfjceeblaaDoorW.PrintWords Go.Proofs.YtkdoijfjceeblaaDoorW.PrintLast Go.Proofs.YtkdoijfjceeblaaDoorW.PrintMore
structure Held (p : Prop) : Prop where
 out : p
theorem hold {p : Prop} (h : Held p) : p := h.out
section
variable {P : Program} {ops : Array Oper} {rest : List Oper} {o : Oper} {a : Act} {Q : Exit → Act → World → Prop}
theorem storeRow_event {W : World} {g : Nat} (hgd : o.guard = none) {t : TypeId} {p v : Operand} (ho : o.op = .store t p v) (hN : o.dst = none) {cs0 cs : Array Value}
  (hp : a.eval p = .pointer (some ⟨g, 0, none⟩)) (hv : a.eval v = .agg cs) (hg : W.heap[g]? = some (.cells cs0 t (0, 0))) (hi : (P.info? t).map (·.size) = some cs.size) (hs : cs0.size = cs.size) (h1 : cs.all (·.oneCell') = true)
  (h : ∀ w', w'.heap[g]? = some (.cells cs t (0, 0)) → (∀ B wb, B ≤ g → Below B wb W → Below B wb w') → (∀ k, k ≠ g → w'.heap[k]? = W.heap[k]?) → w'.heap.size = W.heap.size → wpList P ops Q rest a w') : wpList P ops Q (o :: rest) a W := by
 have hrun : (execOp a.eval o).run P W = .ok .skip (W.setRow g cs) := by
  have hs := run_storeVar_row (P := P) W g t t cs0 cs hg hi hs h1
  have hsa : (Instr.storeAt t (.pointer (some ⟨g, 0, none⟩)) (.agg cs)).run P W = .ok () (W.setRow g cs) := by
   unfold Instr.storeAt
   have ha : (Instr.sureAddr (.pointer (some ⟨g, 0, none⟩))).run P W = .ok ⟨g, 0, none⟩ W := by simp [Instr.sureAddr, go_sem]
   rw [Sem.run_bind, ha]
   exact hs
  unfold execOp
  rw [ho]
  simp only [hp, hv]
  rw [Sem.run_bind, hsa]
  rfl
 refine wpList_plain hgd fun K hK => ?_
 unfold Oper.wp
 rw [hrun]
 show K (a.put o.dst undef) _
 rw [hN]
 refine hK _ _ (h _ (setRow_heap _ _ _ _ _ _ hg) (fun B wb hB hb => below_setRow hb hB cs) (fun k hk => ?_) ?_)
 ·exact setRow_other _ _ _ _ hk
 ·exact setRow_size _ _ _
end
end Go.Proofs.YtkdoijfjceeblaaDoorW.Hand
namespace Go.Proofs.YtkdoijfjceeblaaDoorW.Hand
open Go Go.RowKit Go.Proofs.YtkdoijfjceeblaaDoorW.PrintWords Go.Proofs.YtkdoijfjceeblaaDoorW.PrintLast Go.Proofs.YtkdoijfjceeblaaDoorW.PrintMore
section
variable {P : Program} {ops : Array Oper} {rest : List Oper} {o : Oper} {a : Act} {Q : Exit → Act → World → Prop}
theorem cells_one {x : Value} (h1 : x.oneCell' = true) : x.cells = #[x] := by cases x <;> first | rfl | (simp [Value.oneCell'] at h1)
theorem run_storeVar_one {W : World} {g j : Nat} {cs : Array Value} {T t : TypeId} {x : Value} (hg : W.heap[g]? = some (.cells cs T (0, 0))) (hj : j < cs.size) (hi : (P.info? t).map (·.size) = some 1) (h1 : x.oneCell' = true) :
  (storeVar t ⟨g, j, none⟩ x).run P W = .ok () (W.setCells g j [x]) := by
 have := run_storeCells_cells (P := P) g j [x] 0 W (fun i hi => by
   obtain rfl : i = 0 := by simpa using hi
   simp only [Nat.add_zero]
   rw [blk_cell hg]; simp [hj])
  (fun i _ => blk_frozen hg _) (fun v hv => by rw [List.mem_singleton.1 hv]; exact h1)
 cases hq : P.info? t with
 | none => simp [hq] at hi
 | some i =>
  have hs : 1 = i.size := by simp [hq] at hi; omega
  simp only [Nat.add_zero] at this
  simp [storeVar, sizeOf, typeInfo, hq, cells_one h1, ← hs, this]
theorem setCells_one (W : World) (g j : Nat) (x : Value) : W.setCells g j [x] = W.setCell ⟨g, j, none⟩ x := by simp [World.setCells]
theorem storeCell_event {W : World} {g j : Nat} {x : Value} (hgd : o.guard = none) {t : TypeId} {p v : Operand} (ho : o.op = .store t p v) (hN : o.dst = none) {cs : Array Value} {T : TypeId}
  (hp : a.eval p = .pointer (some ⟨g, j, none⟩)) (hv : a.eval v = x) (hg : W.heap[g]? = some (.cells cs T (0, 0))) (hj : j < cs.size) (hi : (P.info? t).map (·.size) = some 1) (h1 : x.oneCell' = true)
  (h : ∀ w', w'.heap[g]? = some (.cells (cs.setIfInBounds j x) T (0, 0)) → (∀ B wb, B ≤ g → Below B wb W → Below B wb w') → (∀ k, k ≠ g → w'.heap[k]? = W.heap[k]?) → w'.heap.size = W.heap.size → wpList P ops Q rest a w') : wpList P ops Q (o :: rest) a W := by
 have hrun : (execOp a.eval o).run P W = .ok .skip (W.setCell ⟨g, j, none⟩ x) := by
  have hs := run_storeVar_one (P := P) hg hj hi h1
  rw [setCells_one] at hs
  have hsa : (Instr.storeAt t (.pointer (some ⟨g, j, none⟩)) x).run P W = .ok () (W.setCell ⟨g, j, none⟩ x) := by
   unfold Instr.storeAt
   have ha : (Instr.sureAddr (.pointer (some ⟨g, j, none⟩))).run P W = .ok ⟨g, j, none⟩ W := by simp [Instr.sureAddr, go_sem]
   rw [Sem.run_bind, ha]
   exact hs
  unfold execOp
  rw [ho]
  simp only [hp, hv]
  rw [Sem.run_bind, hsa]
  rfl
 refine wpList_plain hgd fun K hK => ?_
 unfold Oper.wp
 rw [hrun]
 show K (a.put o.dst undef) _
 rw [hN]
 exact hK _ _ (h _ (blk_set hg j x) (fun B wb hB hb => hb.setCell hB x) (fun k hk => Below.heap_setCell W ⟨g, j, none⟩ x k hk) (by simp [World.setCell]))
end
end Go.Proofs.YtkdoijfjceeblaaDoorW.Hand
set_option linter.unusedVariables false
set_option linter.unusedSimpArgs false
namespace Go.Proofs.YtkdoijfjceeblaaDoorW.Hand
open Go Go.RowKit Go.Proofs.YtkdoijfjceeblaaDoorW.PrintWords Go.Proofs.YtkdoijfjceeblaaDoorW.PrintLast Go.Proofs.YtkdoijfjceeblaaDoorW.PrintMore
structure Fr (w w' : World) (S : Nat → Prop) : Prop where
 b : Below 0 w w'
 k : Kept w w' S
section
variable {w w1 w2 W : World} {S S2 : Nat → Prop} {B : Nat}
theorem Below.zero (h : Below B w w1) (hs : w.heap.size ≤ w1.heap.size) : Below 0 w w1 := ⟨h.os, h.tape, h.output, hs, fun i hi => absurd hi (by omega)⟩
theorem Fr.refl (w : World) (S : Nat → Prop) : Fr w w S := ⟨Below.refl _ _, Kept.refl _ _⟩
theorem Fr.of_below (h : Below w.heap.size w w1) (S : Nat → Prop) : Fr w w1 S := ⟨Below.zero h h.size, Kept.of_below h S⟩
theorem Fr.mono (h : Fr w w1 S) (hs : ∀ k, S k → S2 k) : Fr w w1 S2 := ⟨h.b, h.k.mono hs⟩
theorem Fr.then_ (h : Fr w w1 S) (k : Fr w1 w2 S2) (hs : ∀ k, S2 k → S k ∨ w.heap.size ≤ k) : Fr w w2 S :=
 ⟨⟨k.b.os.trans h.b.os, k.b.tape.trans h.b.tape, k.b.output.trans h.b.output, Nat.le_trans h.b.size k.b.size, fun i hi => absurd hi (by omega)⟩, h.k.then_ k.k hs⟩
theorem Fr.below (h : Fr w w1 S) (hb : Below w1.heap.size w1 w2) : Fr w w2 S := h.then_ (Fr.of_below hb (fun _ => False)) (fun _ hk => hk.elim)
theorem Fr.to_below (h : Fr w w1 S) (hs : ∀ k, S k → w.heap.size ≤ k) : Below w.heap.size w w1 := ⟨h.b.os, h.b.tape, h.b.output, h.b.size, fun i hi => h.k.2 i hi (fun hk => by have := hs i hk; omega)⟩
theorem Fr.grown {row : Option Nat} (hg : w.grownBy w1 row) (hr : ∀ k, row = some k → S k) : Fr w w1 S :=
 ⟨⟨hg.os, hg.tape, hg.output, hg.size, fun i hi => absurd hi (by omega)⟩, ⟨hg.size, fun i hi hn => hg.block i hi (fun e => hn (hr i e.symm))⟩⟩
theorem Fr.block (h : Fr w w1 S) {k : Nat} {o : Obj} (hk : w.heap[k]? = some o) (hn : ¬ S k) : w1.heap[k]? = some o := (h.k.2 k (blk_lt hk) hn).trans hk
theorem Fr.size (h : Fr w w1 S) : w.heap.size ≤ w1.heap.size := h.k.1
theorem Fr.drew (h : Fr w w1 S) : Fr w w1.drew S := h.below (below_drew (Below.refl _ _))
theorem Fr.refl_drew (w : World) (S : Nat → Prop) : Fr w w.drew S := (Fr.refl w S).drew
theorem Fr.stored {g : Nat} (hb : ∀ B wb, B ≤ g → Below B wb w → Below B wb w1) (ho : ∀ k, k ≠ g → w1.heap[k]? = w.heap[k]?) (hs : w1.heap.size = w.heap.size) (hS : S g) : Fr w w1 S :=
 ⟨hb 0 w (Nat.zero_le _) (Below.refl _ _), ⟨Nat.le_of_eq hs.symm, fun i hi hn => ho i (fun e => hn (e ▸ hS))⟩⟩
end
section
variable {P : Program} {ops : Array Oper} {o : Oper} {a : Act} {Q : Exit → Act → World → Prop} {Kc : Act → World → Prop}
theorem storeCell_step {W : World} {g j : Nat} {x : Value} (hw : Region.wanted o (yielded ops a.tmps) = true) {t : TypeId} {p v : Operand} (ho : o.op = .store t p v) (hN : o.dst = none) {cs : Array Value} {T : TypeId}
  (hp : a.eval p = .pointer (some ⟨g, j, none⟩)) (hv : a.eval v = x) (hg : W.heap[g]? = some (.cells cs T (0, 0))) (hj : j < cs.size) (hi : (P.info? t).map (·.size) = some 1) (h1 : x.oneCell' = true)
  (h : ∀ w', w'.heap[g]? = some (.cells (cs.setIfInBounds j x) T (0, 0)) → (∀ B wb, B ≤ g → Below B wb W → Below B wb w') → (∀ k, k ≠ g → w'.heap[k]? = W.heap[k]?) → w'.heap.size = W.heap.size → Kc a w') : if Region.wanted o (yielded ops a.tmps) = true then Oper.wp P o a W Kc Q else Kc (a.put none undef) W := by
 refine skip_ hw hN (w1 := W.setCell ⟨g, j, none⟩ x) ?_ ?_
 ·have hs := run_storeVar_one (P := P) hg hj hi h1
  rw [setCells_one] at hs
  have hsa : (Instr.storeAt t (.pointer (some ⟨g, j, none⟩)) x).run P W = .ok () (W.setCell ⟨g, j, none⟩ x) := by
   unfold Instr.storeAt
   have ha : (Instr.sureAddr (.pointer (some ⟨g, j, none⟩))).run P W = .ok ⟨g, j, none⟩ W := by simp [Instr.sureAddr, go_sem]
   rw [Sem.run_bind, ha]
   exact hs
  unfold execOp
  rw [ho]
  simp only [hp, hv]
  rw [Sem.run_bind, hsa]
  rfl
 ·exact h _ (blk_set hg j x) (fun B wb hB hb => hb.setCell hB x) (fun k hk => Below.heap_setCell W ⟨g, j, none⟩ x k hk) (by simp [World.setCell])
end
end Go.Proofs.YtkdoijfjceeblaaDoorW.Hand
set_option linter.unusedVariables false
namespace Go.Proofs.YtkdoijfjceeblaaDoorW.Hand
open Go Go.RowKit Go.Proofs.YtkdoijfjceeblaaDoorW.PrintWords Go.Proofs.YtkdoijfjceeblaaDoorW.PrintLast Go.Proofs.YtkdoijfjceeblaaDoorW.PrintMore
section
variable {P : Program} {ops : Array Oper} {o : Oper} {a : Act} {Q : Exit → Act → World → Prop} {Kc : Act → World → Prop}
theorem boxg_step {W : World} (hw : Region.wanted o (yielded ops a.tmps) = true) {N : Tmp} (_hd : o.dst = some N) {cs : Array Value} {t : TypeId}
  (hrun : (execOp a.eval o).run P W = .ok (.value (.pointer (some ⟨W.heap.size, 0, none⟩))) (W.alloc (.cells cs t (0, 0))))
  (h : ∀ g, g = W.heap.size → ∀ w1, w1.heap[g]? = some (.cells cs t (0, 0)) → Below W.heap.size W w1 → Kc (a.put o.dst (.pointer (some ⟨g, 0, none⟩))) w1) : if Region.wanted o (yielded ops a.tmps) = true then Oper.wp P o a W Kc Q else Kc (a.put o.dst undef) W :=
 event_step hw hrun (h _ rfl _ (blk_new W _) (below_alloc (Below.refl _ _) _))
theorem storeRow_step {W : World} {g : Nat} (hw : Region.wanted o (yielded ops a.tmps) = true) {t : TypeId} {p v : Operand} (ho : o.op = .store t p v) (hN : o.dst = none) {cs0 cs : Array Value}
  (hp : a.eval p = .pointer (some ⟨g, 0, none⟩)) (hv : a.eval v = .agg cs) (hg : W.heap[g]? = some (.cells cs0 t (0, 0))) (hi : (P.info? t).map (·.size) = some cs.size) (hs : cs0.size = cs.size) (h1 : cs.all (·.oneCell') = true)
  (h : ∀ w', w'.heap[g]? = some (.cells cs t (0, 0)) → (∀ B wb, B ≤ g → Below B wb W → Below B wb w') → (∀ k, k ≠ g → w'.heap[k]? = W.heap[k]?) → w'.heap.size = W.heap.size → Kc a w') : if Region.wanted o (yielded ops a.tmps) = true then Oper.wp P o a W Kc Q else Kc (a.put none undef) W := by
 refine skip_ hw hN (w1 := W.setRow g cs) ?_ ?_
 ·have hs' := run_storeVar_row (P := P) W g t t cs0 cs hg hi hs h1
  have hsa : (Instr.storeAt t (.pointer (some ⟨g, 0, none⟩)) (.agg cs)).run P W = .ok () (W.setRow g cs) := by
   unfold Instr.storeAt
   have ha : (Instr.sureAddr (.pointer (some ⟨g, 0, none⟩))).run P W = .ok ⟨g, 0, none⟩ W := by simp [Instr.sureAddr, go_sem]
   rw [Sem.run_bind, ha]
   exact hs'
  unfold execOp
  rw [ho]
  simp only [hp, hv]
  rw [Sem.run_bind, hsa]
  rfl
 ·exact h _ (setRow_heap _ _ _ _ _ _ hg) (fun B wb hB hb => below_setRow hb hB cs) (fun k hk => setRow_other _ _ _ _ hk) (setRow_size _ _ _)
end
end Go.Proofs.YtkdoijfjceeblaaDoorW.Hand
set_option linter.unusedVariables false
namespace Go.Proofs.YtkdoijfjceeblaaDoorW.Hand
open Go Go.RowKit Go.Proofs.YtkdoijfjceeblaaDoorW.PrintWords Go.Proofs.YtkdoijfjceeblaaDoorW.PrintLast Go.Proofs.YtkdoijfjceeblaaDoorW.PrintMore
section
variable {P : Program} {ops : Array Oper} {Q : Exit → Act → World → Prop}
theorem goesV_ {oi : Oper} {N : Option Tmp} {a : Act} {w : World} {K : Act → World → Prop} {f : FuncId} {fn : Func} {c : Operand} {as : Array Operand} {ts : Array TypeId} (hf : P.funcs[f]? = some fn) (hname : (fn.name == "runtime.NumGoroutine") = false) (hb : fn.body.isSome = true) (args : Array Value)
  (hw : Region.wanted oi (yielded ops a.tmps) = true) (hN : oi.dst = N) (hop : oi.op = .call { callee := .value c, args := as, argTypes := ts }) (hc : a.eval c = .func (.func f) #[] #[]) (hargs : as.map a.eval = args)
  (h : Calls P f args w fun e w' => ∃ v, e = .returned v ∧ K (a.put N v) w') : if Region.wanted oi (yielded ops a.tmps) = true then Oper.wp P oi a w K Q else K (a.put N undef) w := by
 refine call_ f args hw hN ?_ h
 have he := enters_ hf hname hb args w
 unfold execOp
 simp [hop, resolve, Deferred.ofValue, invoke, hc, hargs, he]
end
end Go.Proofs.YtkdoijfjceeblaaDoorW.Hand
namespace Go.Proofs.YtkdoijfjceeblaaDoorW.Byt
open Go Go.RowKit Go.Proofs.YtkdoijfjceeblaaDoorW.PrintWords Go.Proofs.YtkdoijfjceeblaaDoorW.PrintLast Go.Proofs.YtkdoijfjceeblaaDoorW.PrintMore Go.Proofs.YtkdoijfjceeblaaDoorW.Hand
set_option linter.unusedVariables false
set_option linter.unusedSimpArgs false
structure BytAt (W : World) (e : TypeId) (g c : Nat) (ns : List Int) : Prop where
 blk : ∃ cs m, W.heap[g]? = some (.cells cs e m) ∧ c ≤ cs.size ∧ (∀ j, j < c → ¬ (m.1 ≤ j ∧ j < m.2))
 cell : ∀ j, j < ns.length → W.cell? ⟨g, j, none⟩ = some (.int .u8 (ns.getD j 0))
 len : ns.length ≤ c
 cap : c ≤ maxLen
section
variable {W W1 : World} {e : TypeId} {g c : Nat} {ns : List Int}
theorem BytAt.below (h : BytAt W e g c ns) (hb : Below W.heap.size W W1) : BytAt W1 e g c ns := by
 obtain ⟨cs, m, h1, h2, h3⟩ := h.blk
 exact ⟨⟨cs, m, blk_below h1 hb, h2, h3⟩, fun j hj => pw_cell_below hb (h.cell j hj), h.len, h.cap⟩
theorem BytAt.take (h : BytAt W e g c ns) (k : Nat) : BytAt W e g c (ns.take k) :=
 ⟨h.blk, fun j hj => by
  have hj' : j < ns.length := by rw [List.length_take] at hj; omega
  rw [h.cell j hj']
  rw [List.length_take] at hj
  simp [List.getD_eq_getElem?_getD, List.getElem?_take, show j < k by omega], by rw [List.length_take]; have := h.len; omega, h.cap⟩
theorem cell_mark {cs : Array Value} {m : Nat × Nat} (h : W.heap[g]? = some (.cells cs e m)) (j : Nat) : W.cell? ⟨g, j, none⟩ = cs[j]? := cell_of_row W g j cs e m h
theorem set_mark {cs : Array Value} {m : Nat × Nat} (h : W.heap[g]? = some (.cells cs e m)) (j : Nat) (x : Value) : (W.setCell ⟨g, j, none⟩ x).heap[g]? = some (.cells (cs.setIfInBounds j x) e m) := by
 obtain ⟨lo, hi⟩ := m
 simp [World.setCell, h, Array.getElem?_modify]
theorem BytAt.set (h : BytAt W e g c ns) {j : Nat} (hj : j < ns.length) (x : Int) : BytAt (W.setCell ⟨g, j, none⟩ (.int .u8 x)) e g c (ns.set j x) := by
 obtain ⟨cs, m, h1, h2, h3⟩ := h.blk
 refine ⟨⟨_, m, set_mark h1 j _, by rw [Array.size_setIfInBounds]; exact h2, h3⟩, fun i hi => ?_, by rw [List.length_set]; exact h.len, h.cap⟩
 rw [List.length_set] at hi
 rw [cell_mark (set_mark h1 j _), Array.getElem?_setIfInBounds]
 by_cases hij : j = i
 ·subst hij
  have := h.len
  simp [List.getD_eq_getElem?_getD, hi, show j < cs.size by omega]
 ·rw [if_neg hij, ← cell_mark h1 i, h.cell i hi]
  simp [List.getD_eq_getElem?_getD, List.getElem?_set_ne hij]
end
section
variable {P : Program} {ops : Array Oper} {rest : List Oper} {o : Oper} {a : Act} {Q : Exit → Act → World → Prop}
end
end Go.Proofs.YtkdoijfjceeblaaDoorW.Byt
namespace Go.Proofs.YtkdoijfjceeblaaDoorW.Hand
open Go Go.RowKit
set_option linter.unusedVariables false
def OwnT {β : Type} (T : Nat → Prop) (I : β → World → Prop) : Prop := ∀ s W W' row, I s W → W.grownBy W' row → (∀ r, row = some r → T r) → I s W'
def roundPostP (P : Program) (l : Nat) (R : Ending → World → Prop) : Exit → Act → World → Prop
 | .normal, _, w => ∃ v w', (Instr.endRound l none).run P w = .ok v w' ∧ R (.returned v) w'
 | .panic ch, a, w => a.defers = [] ∧ R (.panicked ch) w
 | _, _, _ => False
theorem roundIn_pan {F : Fence} {n : Nat} {P : Program} {l : Nat} {f : FuncId} {fn : Func} {tmps : Array Value} {assign body : Code} {w : World} {R : Ending → World → Prop} (hf : P.funcs[f]? = some fn) (hF : F.fn f)
  (h : assign.wpIn (F.inRound l) n P (Exit.then (fun a₁ w₁ => ∃ w₂, (Instr.beginRound l).run P w₁ = .ok () w₂ ∧ body.wpIn (F.inRound l) n P (roundPostP P l R) a₁ w₂) (fun _ _ _ => False))
   { tmps := tmps, defers := [] } w) :
  RoundIn F n P l f tmps assign body w R := by
 refine ⟨hF, fun c cs hr => ?_⟩
 let b : Frame := { (default : Frame) with fn := f, kind := .normal, roundOf := some l }
 have hb0 : Frame.round l f tmps assign body .normal = b.atR { tmps := tmps, defers := [] } [.code assign, .beginRound, .code body] := by
  simp [Frame.round, Frame.atR, b]
 have hr' : (F.inRound l).room ((c :: cs).length + 1 + n) := hr
 have hF' : (F.inRound l).fn b.fn := hF
 obtain ⟨e, a₁, w₁, hq, harr⟩ := h b [.beginRound, .code body] (c :: cs) rfl hF' hr'
 rw [← hb0] at harr
 cases e with
 | normal =>
  obtain ⟨w₂, hbr, hbody⟩ := hq
  have s1 : StepsIn (Machine.fenced P (F.inRound l)) P (lone (b.atR a₁ [.beginRound, .code body]) (c :: cs) w₁) (lone (b.atR a₁ [.code body]) (c :: cs) w₂) :=
   .one (fenced_calm (fr := b.atR a₁ [.beginRound, .code body]) hF' hr' rfl) (stepR_beginRound rfl hbr)
  obtain ⟨e₂, a₂, w₃, hq₂, harr₂⟩ := hbody b [] (c :: cs) rfl hF' hr'
  cases e₂ with
  | normal =>
   obtain ⟨v, w₄, hend, hR⟩ := hq₂
   exact ⟨.returned v, w₄, hR, (StepsIn.trans harr s1).trans (StepsIn.trans harr₂ (.one (fenced_calm (fr := b.atR a₂ []) hF' hr' rfl) (stepR_round_end rfl rfl hend)))⟩
  | panic ch =>
   obtain ⟨hd, hR⟩ := hq₂
   obtain ⟨todo, hs⟩ := harr₂
   have hl : ({ b.atR a₂ todo with mode := .panicking ch } : Frame).leaving P w₃ (.panicked ch) := ⟨rfl, hd, fn, hf⟩
   exact ⟨.panicked ch, w₃, hR, (StepsIn.trans harr s1).trans (StepsIn.trans hs (.one (fenced_leaving (fr := { b.atR a₂ todo with mode := .panicking ch }) hF' hr' hl) (step_leave_panicked hl)))⟩
  | ret => exact hq₂.elim
  | exit id => exact hq₂.elim
  | goto t => exact hq₂.elim
  | outgrown => exact hq₂.elim
 | exit id => exact hq.elim
 | goto t => exact hq.elim
 | ret => exact hq.elim
 | panic chain => exact hq.elim
 | outgrown => exact hq.elim
section
variable {F : Fence} {n : Nat} {P : Program}
theorem OwnT.and {β : Type} {T : Nat → Prop} {I I' : β → World → Prop} (h : OwnT T I) (h' : OwnT T I') : OwnT T (fun s W => I s W ∧ I' s W) := fun s W W' row hs hg hr => ⟨h s W W' row hs.1 hg hr, h' s W W' row hs.2 hg hr⟩
theorem OwnT.mono {β : Type} {T T' : Nat → Prop} {I : β → World → Prop} (h : OwnT T I) (hT : ∀ k, T' k → T k) : OwnT T' I := fun s W W' row hs hg hr => h s W W' row hs hg (fun r e => hT r (hr r e))
theorem OwnT.block {β : Type} {T : Nat → Prop} {k : Nat} {o : Obj} (hk : ¬ T k) : OwnT T (fun (_ : β) W => W.heap[k]? = some o) := fun s W W' row hs hg hr =>
 (hg.block k (Array.getElem?_eq_some_iff.1 hs).1 (fun e => hk (hr k e.symm))).trans hs
theorem OwnT.below {β : Type} {n0 : Nat} {T : Nat → Prop} {w0 : World} (hn : n0 ≤ w0.heap.size) (hT : ∀ k, T k → n0 ≤ k) : OwnT T (fun (_ : β) W => Below n0 w0 W) := fun s W W' row hs hg hr => hs.grown hg (Nat.le_trans hn hs.size) (fun k e => hT k (hr k e))
abbrev RecAtP (w W : World) (rec : LoopState → Option Code → Loop) (st : LoopState) (pe : Option Code) : Prop := W.heap[w.heap.size + 1]? = some (.loop (rec st pe)) ∧ W.heap[w.heap.size]? = some (.deferred (some []))
def panPost {α : Type} (Bt : Nat → Prop) (I : List α → World → Prop) (Ip : List PanicEntry → List α → World → Prop) (xs : List α) (W : World) : Exit → Act → World → Prop
 | .normal, _, W' => KeepsOthers W W' ∧ (∀ k, Bt k → W'.heap[k]? = W.heap[k]?) ∧ Below 0 W W' ∧ I xs W'
 | .panic ch, a, W' => a.defers = [] ∧ KeepsOthers W W' ∧ (∀ k, Bt k → W'.heap[k]? = W.heap[k]?) ∧ Below 0 W W' ∧ Ip ch xs W'
 | _, _, _ => False
theorem below0_put (W : World) (l : Nat) (o' : Obj) : Below 0 W (W.putObj l o') := (Below.refl 0 W).grown (grownBy_putObj' W l o') (Nat.zero_le _) (fun _ _ => Nat.zero_le _)
end
end Go.Proofs.YtkdoijfjceeblaaDoorW.Hand
set_option linter.unusedVariables false
namespace Go.Proofs.YtkdoijfjceeblaaDoorW.Hand
open Go Go.RowKit Go.Proofs.YtkdoijfjceeblaaDoorW.PrintWords Go.Proofs.YtkdoijfjceeblaaDoorW.PrintLast Go.Proofs.YtkdoijfjceeblaaDoorW.PrintMore
section
variable {P : Program} {ops : Array Oper} {Q : Exit → Act → World → Prop} {n : Nat}
end
end Go.Proofs.YtkdoijfjceeblaaDoorW.Hand
set_option linter.unusedVariables false
namespace Go.Proofs.YtkdoijfjceeblaaDoorW.Hand
open Go Go.RowKit Go.Proofs.YtkdoijfjceeblaaDoorW.PrintWords Go.Proofs.YtkdoijfjceeblaaDoorW.PrintLast Go.Proofs.YtkdoijfjceeblaaDoorW.PrintMore
section
variable {P : Program} {ops : Array Oper} {Q : Exit → Act → World → Prop} {S : World → Prop} {ds : List Nat}
end
end Go.Proofs.YtkdoijfjceeblaaDoorW.Hand
