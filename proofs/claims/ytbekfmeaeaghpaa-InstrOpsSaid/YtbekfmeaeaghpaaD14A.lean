/-
  Words for walks by hand: one operation at a time, the blocks told as facts. More words for walks by hand: one cell stored into a block, literals that lead to what is only read. Words for states behind pointers: what a call leaves as it was (Fr), steps of a region that draws its order. More steps of a region that draws its order: a new variable, a whole struct stored. A step of a region that draws its order: a call of a function value that a variable holds. Words for rows of bytes that a conversion has made (their blocks bear a mark): '[]byte(s)', 'string(b)', a byte stored, a byte appended.
-/
import Derived.Test.YtbekfmeaeaghpaaWMore
import Derived.Laws.CopyOwn
import Derived.Laws.IdiomCopy
import Derived.Laws.IdiomStrings
import Derived.Laws.BytesArg
import Derived.ArgAppend
namespace Go.Proofs.YtbekfmeaeaghpaaW.Hand
open Go Go.RowKit Go.Proofs.YtbekfmeaeaghpaaW.PrintWords Go.Proofs.YtbekfmeaeaghpaaW.PrintLast Go.Proofs.YtbekfmeaeaghpaaW.PrintMore
/-- A goal that the walk leaves as it is. -/
structure Held (p : Prop) : Prop where
  out : p
theorem hold {p : Prop} (h : Held p) : p := h.out
section
variable {P : Program} {ops : Array Oper} {rest : List Oper} {o : Oper} {a : Act} {Q : Exit → Act → World → Prop}
/-- A literal '[]T{..}' lies in a block of its own. -/
theorem lit_event {W : World} (hgd : o.guard = none) {N : Tmp} (_hd : o.dst = some N) {cs : Array Value} {t : TypeId} {n : Nat}
    (hrun : (execOp a.eval o).run P W = .ok (.value (.slice (some ⟨W.heap.size, 0, none⟩) n n)) (W.alloc (.cells cs t (0, 0))))
    (h : ∀ g, g = W.heap.size → ∀ w1, w1.heap[g]? = some (.cells cs t (0, 0)) → Below W.heap.size W w1 → wpList P ops Q rest (a.put o.dst (.slice (some ⟨g, 0, none⟩) n n)) w1) : wpList P ops Q (o :: rest) a W :=
  Kd.event_run hgd hrun (h _ rfl _ (blk_new W _) (below_alloc (Below.refl _ _) _))
/-- A whole struct or array stored into a block of its own. -/
theorem storeRow_event {W : World} {g : Nat} (hgd : o.guard = none) {t : TypeId} {p v : Operand} (ho : o.op = .store t p v) (hN : o.dst = none) {cs0 cs : Array Value}
    (hp : a.eval p = .pointer (some ⟨g, 0, none⟩)) (hv : a.eval v = .agg cs) (hg : W.heap[g]? = some (.cells cs0 t (0, 0))) (hi : (P.info? t).map (·.size) = some cs.size) (hs : cs0.size = cs.size) (h1 : cs.all (·.oneCell') = true)
    (h : ∀ w', w'.heap[g]? = some (.cells cs t (0, 0)) → (∀ B wb, B ≤ g → Below B wb W → Below B wb w') → (∀ k, k ≠ g → w'.heap[k]? = W.heap[k]?) → w'.heap.size = W.heap.size → wpList P ops Q rest a w') : wpList P ops Q (o :: rest) a W := by
  have hrun : (execOp a.eval o).run P W = .ok .skip (W.setRow g cs) := by
    have hs := run_storeVar_row (P := P) W g t t cs0 cs hg hi hs h1
    have hsa : (Instr.storeAt t (.pointer (some ⟨g, 0, none⟩)) (.agg cs)).run P W = .ok () (W.setRow g cs) := by
      unfold Instr.storeAt
      have ha : (Instr.sureAddr (.pointer (some ⟨g, 0, none⟩))).run P W = .ok ⟨g, 0, none⟩ W := by simp [Instr.sureAddr, go_sem]
      rw [Sem.run_bind, ha]
      exact hs
    unfold execOp
    rw [ho]
    simp only [hp, hv]
    rw [Sem.run_bind, hsa]
    rfl
  refine wpList_plain hgd fun K hK => ?_
  unfold Oper.wp
  rw [hrun]
  show K (a.put o.dst undef) _
  rw [hN]
  refine hK _ _ (h _ (setRow_heap _ _ _ _ _ _ hg) (fun B wb hB hb => below_setRow hb hB cs) (fun k hk => ?_) ?_)
  · exact setRow_other _ _ _ _ hk
  · exact setRow_size _ _ _
end
end Go.Proofs.YtbekfmeaeaghpaaW.Hand
namespace Go.Proofs.YtbekfmeaeaghpaaW.Hand
open Go Go.RowKit Go.Proofs.YtbekfmeaeaghpaaW.PrintWords Go.Proofs.YtbekfmeaeaghpaaW.PrintLast Go.Proofs.YtbekfmeaeaghpaaW.PrintMore
section
variable {P : Program} {ops : Array Oper} {rest : List Oper} {o : Oper} {a : Act} {Q : Exit → Act → World → Prop}
theorem cells_one {x : Value} (h1 : x.oneCell' = true) : x.cells = #[x] := by cases x <;> first | rfl | (simp [Value.oneCell'] at h1)
theorem run_storeVar_one {W : World} {g j : Nat} {cs : Array Value} {T t : TypeId} {x : Value} (hg : W.heap[g]? = some (.cells cs T (0, 0))) (hj : j < cs.size) (hi : (P.info? t).map (·.size) = some 1) (h1 : x.oneCell' = true) :
    (storeVar t ⟨g, j, none⟩ x).run P W = .ok () (W.setCells g j [x]) := by
  have := run_storeCells_cells (P := P) g j [x] 0 W (fun i hi => by
      obtain rfl : i = 0 := by simpa using hi
      simp only [Nat.add_zero]
      rw [blk_cell hg]; simp [hj])
    (fun i _ => blk_frozen hg _) (fun v hv => by rw [List.mem_singleton.1 hv]; exact h1)
  cases hq : P.info? t with
  | none => simp [hq] at hi
  | some i =>
    have hs : 1 = i.size := by simp [hq] at hi; omega
    simp only [Nat.add_zero] at this
    simp [storeVar, sizeOf, typeInfo, hq, cells_one h1, ← hs, this]
theorem setCells_one (W : World) (g j : Nat) (x : Value) : W.setCells g j [x] = W.setCell ⟨g, j, none⟩ x := by simp [World.setCells]
/-- One cell of a block stored. -/
theorem storeCell_event {W : World} {g j : Nat} {x : Value} (hgd : o.guard = none) {t : TypeId} {p v : Operand} (ho : o.op = .store t p v) (hN : o.dst = none) {cs : Array Value} {T : TypeId}
    (hp : a.eval p = .pointer (some ⟨g, j, none⟩)) (hv : a.eval v = x) (hg : W.heap[g]? = some (.cells cs T (0, 0))) (hj : j < cs.size) (hi : (P.info? t).map (·.size) = some 1) (h1 : x.oneCell' = true)
    (h : ∀ w', w'.heap[g]? = some (.cells (cs.setIfInBounds j x) T (0, 0)) → (∀ B wb, B ≤ g → Below B wb W → Below B wb w') → (∀ k, k ≠ g → w'.heap[k]? = W.heap[k]?) → w'.heap.size = W.heap.size → wpList P ops Q rest a w') : wpList P ops Q (o :: rest) a W := by
  have hrun : (execOp a.eval o).run P W = .ok .skip (W.setCell ⟨g, j, none⟩ x) := by
    have hs := run_storeVar_one (P := P) hg hj hi h1
    rw [setCells_one] at hs
    have hsa : (Instr.storeAt t (.pointer (some ⟨g, j, none⟩)) x).run P W = .ok () (W.setCell ⟨g, j, none⟩ x) := by
      unfold Instr.storeAt
      have ha : (Instr.sureAddr (.pointer (some ⟨g, j, none⟩))).run P W = .ok ⟨g, j, none⟩ W := by simp [Instr.sureAddr, go_sem]
      rw [Sem.run_bind, ha]
      exact hs
    unfold execOp
    rw [ho]
    simp only [hp, hv]
    rw [Sem.run_bind, hsa]
    rfl
  refine wpList_plain hgd fun K hK => ?_
  unfold Oper.wp
  rw [hrun]
  show K (a.put o.dst undef) _
  rw [hN]
  exact hK _ _ (h _ (blk_set hg j x) (fun B wb hB hb => hb.setCell hB x) (fun k hk => Below.heap_setCell W ⟨g, j, none⟩ x k hk) (by simp [World.setCell]))
end
end Go.Proofs.YtbekfmeaeaghpaaW.Hand
set_option linter.unusedVariables false
set_option linter.unusedSimpArgs false
namespace Go.Proofs.YtbekfmeaeaghpaaW.Hand
open Go Go.RowKit Go.Proofs.YtbekfmeaeaghpaaW.PrintWords Go.Proofs.YtbekfmeaeaghpaaW.PrintLast Go.Proofs.YtbekfmeaeaghpaaW.PrintMore
/-- All is as it was but the blocks of S, and what is new since. -/
structure Fr (w w' : World) (S : Nat → Prop) : Prop where
  b : Below 0 w w'
  k : Kept w w' S
section
variable {w w1 w2 W : World} {S S2 : Nat → Prop} {B : Nat}
theorem Below.zero (h : Below B w w1) (hs : w.heap.size ≤ w1.heap.size) : Below 0 w w1 := ⟨h.os, h.tape, h.output, hs, fun i hi => absurd hi (by omega)⟩
theorem Fr.refl (w : World) (S : Nat → Prop) : Fr w w S := ⟨Below.refl _ _, Kept.refl _ _⟩
theorem Fr.of_below (h : Below w.heap.size w w1) (S : Nat → Prop) : Fr w w1 S := ⟨Below.zero h h.size, Kept.of_below h S⟩
theorem Fr.mono (h : Fr w w1 S) (hs : ∀ k, S k → S2 k) : Fr w w1 S2 := ⟨h.b, h.k.mono hs⟩
theorem Fr.then_ (h : Fr w w1 S) (k : Fr w1 w2 S2) (hs : ∀ k, S2 k → S k ∨ w.heap.size ≤ k) : Fr w w2 S :=
  ⟨⟨k.b.os.trans h.b.os, k.b.tape.trans h.b.tape, k.b.output.trans h.b.output, Nat.le_trans h.b.size k.b.size, fun i hi => absurd hi (by omega)⟩, h.k.then_ k.k hs⟩
theorem Fr.below (h : Fr w w1 S) (hb : Below w1.heap.size w1 w2) : Fr w w2 S := h.then_ (Fr.of_below hb (fun _ => False)) (fun _ hk => hk.elim)
theorem Fr.to_below (h : Fr w w1 S) (hs : ∀ k, S k → w.heap.size ≤ k) : Below w.heap.size w w1 := ⟨h.b.os, h.b.tape, h.b.output, h.b.size, fun i hi => h.k.2 i hi (fun hk => by have := hs i hk; omega)⟩
theorem Fr.grown {row : Option Nat} (hg : w.grownBy w1 row) (hr : ∀ k, row = some k → S k) : Fr w w1 S :=
  ⟨⟨hg.os, hg.tape, hg.output, hg.size, fun i hi => absurd hi (by omega)⟩, ⟨hg.size, fun i hi hn => hg.block i hi (fun e => hn (hr i e.symm))⟩⟩
theorem Fr.block (h : Fr w w1 S) {k : Nat} {o : Obj} (hk : w.heap[k]? = some o) (hn : ¬ S k) : w1.heap[k]? = some o := (h.k.2 k (blk_lt hk) hn).trans hk
theorem Fr.size (h : Fr w w1 S) : w.heap.size ≤ w1.heap.size := h.k.1
theorem Fr.drew (h : Fr w w1 S) : Fr w w1.drew S := h.below (below_drew (Below.refl _ _))
theorem Fr.refl_drew (w : World) (S : Nat → Prop) : Fr w w.drew S := (Fr.refl w S).drew
/-- A store into block g. -/
theorem Fr.stored {g : Nat} (hb : ∀ B wb, B ≤ g → Below B wb w → Below B wb w1) (ho : ∀ k, k ≠ g → w1.heap[k]? = w.heap[k]?) (hs : w1.heap.size = w.heap.size) (hS : S g) : Fr w w1 S :=
  ⟨hb 0 w (Nat.zero_le _) (Below.refl _ _), ⟨Nat.le_of_eq hs.symm, fun i hi hn => ho i (fun e => hn (e ▸ hS))⟩⟩
end
section
variable {P : Program} {ops : Array Oper} {o : Oper} {a : Act} {Q : Exit → Act → World → Prop} {Kc : Act → World → Prop}
theorem lit_step {W : World} (hw : Region.wanted o (yielded ops a.tmps) = true) {N : Tmp} (_hd : o.dst = some N) {cs : Array Value} {t : TypeId} {n : Nat}
    (hrun : (execOp a.eval o).run P W = .ok (.value (.slice (some ⟨W.heap.size, 0, none⟩) n n)) (W.alloc (.cells cs t (0, 0))))
    (h : ∀ g, g = W.heap.size → ∀ w1, w1.heap[g]? = some (.cells cs t (0, 0)) → Below W.heap.size W w1 → Kc (a.put o.dst (.slice (some ⟨g, 0, none⟩) n n)) w1) : if Region.wanted o (yielded ops a.tmps) = true then Oper.wp P o a W Kc Q else Kc (a.put o.dst undef) W :=
  event_step hw hrun (h _ rfl _ (blk_new W _) (below_alloc (Below.refl _ _) _))
theorem storeCell_step {W : World} {g j : Nat} {x : Value} (hw : Region.wanted o (yielded ops a.tmps) = true) {t : TypeId} {p v : Operand} (ho : o.op = .store t p v) (hN : o.dst = none) {cs : Array Value} {T : TypeId}
    (hp : a.eval p = .pointer (some ⟨g, j, none⟩)) (hv : a.eval v = x) (hg : W.heap[g]? = some (.cells cs T (0, 0))) (hj : j < cs.size) (hi : (P.info? t).map (·.size) = some 1) (h1 : x.oneCell' = true)
    (h : ∀ w', w'.heap[g]? = some (.cells (cs.setIfInBounds j x) T (0, 0)) → (∀ B wb, B ≤ g → Below B wb W → Below B wb w') → (∀ k, k ≠ g → w'.heap[k]? = W.heap[k]?) → w'.heap.size = W.heap.size → Kc a w') : if Region.wanted o (yielded ops a.tmps) = true then Oper.wp P o a W Kc Q else Kc (a.put none undef) W := by
  refine skip_ hw hN (w1 := W.setCell ⟨g, j, none⟩ x) ?_ ?_
  · have hs := run_storeVar_one (P := P) hg hj hi h1
    rw [setCells_one] at hs
    have hsa : (Instr.storeAt t (.pointer (some ⟨g, j, none⟩)) x).run P W = .ok () (W.setCell ⟨g, j, none⟩ x) := by
      unfold Instr.storeAt
      have ha : (Instr.sureAddr (.pointer (some ⟨g, j, none⟩))).run P W = .ok ⟨g, j, none⟩ W := by simp [Instr.sureAddr, go_sem]
      rw [Sem.run_bind, ha]
      exact hs
    unfold execOp
    rw [ho]
    simp only [hp, hv]
    rw [Sem.run_bind, hsa]
    rfl
  · exact h _ (blk_set hg j x) (fun B wb hB hb => hb.setCell hB x) (fun k hk => Below.heap_setCell W ⟨g, j, none⟩ x k hk) (by simp [World.setCell])
theorem R_store_step {α : Type} (d : Kd α) {w0 W : World} (base : Nat) (hN : o.dst = none) (hw : Region.wanted o (yielded ops a.tmps) = true) (t : TypeId) (p x : Operand) (ho : o.op = .store t p x) (e : TypeId) {g n cap o' : Nat} (i : Int) (j : Nat) (xs : List α) (x' : α) (u : Value) (seg c : List Value) (ok okp : Nat → Prop)
    (haddr : a.eval p = .pointer (some ⟨g, o', none⟩)) (hoff : o' = i.toNat * d.sz + j) (hx : a.eval x = u) (hu : u.cells.toList = seg) (ht : (P.info? t).map (·.size) = some seg.length) (h1 : ∀ q ∈ seg, q.oneCell' = true)
    (HO : d.R e W base ok (.slice (some ⟨g, 0, none⟩) n cap) xs) (h0 : 0 ≤ i) (hi : i < n) (hcl : c.length = d.sz) (hcc : ∀ j u, c[j]? = some u → W.cell? ⟨g, i.toNat * d.sz + j, none⟩ = some u)
    (hj : j + seg.length ≤ d.sz) (hM : d.M W base okp x' (c.take j ++ seg ++ c.drop (j + seg.length))) (hokp : ∀ k, okp k → ok k ∧ k ≠ g)
    (h : ∀ w1, d.R e w1 base ok (.slice (some ⟨g, 0, none⟩) n cap) (xs.set i.toNat x') → W.grownBy w1 (some g) → w1.heap.size = W.heap.size → Kc a w1) : if Region.wanted o (yielded ops a.tmps) = true then Oper.wp P o a W Kc Q else Kc (a.put none undef) W := by
  subst hoff
  obtain ⟨hrow, hg⟩ := Kd.R_seg HO i h0 hi hcl hcc hj hM hokp
  have hnx : n = xs.length := (Kd.R_reads' HO).1
  obtain ⟨_, inner, hown, hr⟩ := HO
  have hil : i.toNat < n := by omega
  have hrun : (Instr.storeAt t (.pointer (some ⟨g, i.toNat * d.sz + j, none⟩)) u).run P W = .ok () (W.setCells g (i.toNat * d.sz + j) seg) := by
    rcases hown.2 with ⟨hv, _⟩ | ⟨g', cap', cur, hv, hb, hh, hnc, hcm, hcs, _⟩
    · cases hv
    injection hv with ha _ hc
    injection ha with ha
    injection ha with hg'
    subst hg'; subst hc
    refine run_store_run t u seg hh hu ht ?_ h1
    have h2 : i.toNat * d.sz + d.sz ≤ n * d.sz := by rw [← Nat.succ_mul]; exact Nat.mul_le_mul_right _ hil
    have h3 : n * d.sz ≤ cap * d.sz := Nat.mul_le_mul_right _ (by omega)
    omega
  refine skip_ hw hN (w1 := W.setCells g (i.toNat * d.sz + j) seg) ?_ (h _ hrow hg (setCells_same _ _ _ _).2.2.2)
  unfold execOp
  rw [ho]
  simp only [haddr, hx]
  rw [Sem.run_bind, hrun]
  rfl
end
end Go.Proofs.YtbekfmeaeaghpaaW.Hand
set_option linter.unusedVariables false
namespace Go.Proofs.YtbekfmeaeaghpaaW.Hand
open Go Go.RowKit Go.Proofs.YtbekfmeaeaghpaaW.PrintWords Go.Proofs.YtbekfmeaeaghpaaW.PrintLast Go.Proofs.YtbekfmeaeaghpaaW.PrintMore
section
variable {P : Program} {ops : Array Oper} {o : Oper} {a : Act} {Q : Exit → Act → World → Prop} {Kc : Act → World → Prop}
theorem boxg_step {W : World} (hw : Region.wanted o (yielded ops a.tmps) = true) {N : Tmp} (_hd : o.dst = some N) {cs : Array Value} {t : TypeId}
    (hrun : (execOp a.eval o).run P W = .ok (.value (.pointer (some ⟨W.heap.size, 0, none⟩))) (W.alloc (.cells cs t (0, 0))))
    (h : ∀ g, g = W.heap.size → ∀ w1, w1.heap[g]? = some (.cells cs t (0, 0)) → Below W.heap.size W w1 → Kc (a.put o.dst (.pointer (some ⟨g, 0, none⟩))) w1) : if Region.wanted o (yielded ops a.tmps) = true then Oper.wp P o a W Kc Q else Kc (a.put o.dst undef) W :=
  event_step hw hrun (h _ rfl _ (blk_new W _) (below_alloc (Below.refl _ _) _))
theorem storeRow_step {W : World} {g : Nat} (hw : Region.wanted o (yielded ops a.tmps) = true) {t : TypeId} {p v : Operand} (ho : o.op = .store t p v) (hN : o.dst = none) {cs0 cs : Array Value}
    (hp : a.eval p = .pointer (some ⟨g, 0, none⟩)) (hv : a.eval v = .agg cs) (hg : W.heap[g]? = some (.cells cs0 t (0, 0))) (hi : (P.info? t).map (·.size) = some cs.size) (hs : cs0.size = cs.size) (h1 : cs.all (·.oneCell') = true)
    (h : ∀ w', w'.heap[g]? = some (.cells cs t (0, 0)) → (∀ B wb, B ≤ g → Below B wb W → Below B wb w') → (∀ k, k ≠ g → w'.heap[k]? = W.heap[k]?) → w'.heap.size = W.heap.size → Kc a w') : if Region.wanted o (yielded ops a.tmps) = true then Oper.wp P o a W Kc Q else Kc (a.put none undef) W := by
  refine skip_ hw hN (w1 := W.setRow g cs) ?_ ?_
  · have hs' := run_storeVar_row (P := P) W g t t cs0 cs hg hi hs h1
    have hsa : (Instr.storeAt t (.pointer (some ⟨g, 0, none⟩)) (.agg cs)).run P W = .ok () (W.setRow g cs) := by
      unfold Instr.storeAt
      have ha : (Instr.sureAddr (.pointer (some ⟨g, 0, none⟩))).run P W = .ok ⟨g, 0, none⟩ W := by simp [Instr.sureAddr, go_sem]
      rw [Sem.run_bind, ha]
      exact hs'
    unfold execOp
    rw [ho]
    simp only [hp, hv]
    rw [Sem.run_bind, hsa]
    rfl
  · exact h _ (setRow_heap _ _ _ _ _ _ hg) (fun B wb hB hb => below_setRow hb hB cs) (fun k hk => setRow_other _ _ _ _ hk) (setRow_size _ _ _)
end
end Go.Proofs.YtbekfmeaeaghpaaW.Hand
set_option linter.unusedVariables false
namespace Go.Proofs.YtbekfmeaeaghpaaW.Hand
open Go Go.RowKit Go.Proofs.YtbekfmeaeaghpaaW.PrintWords Go.Proofs.YtbekfmeaeaghpaaW.PrintLast Go.Proofs.YtbekfmeaeaghpaaW.PrintMore
section
variable {P : Program} {ops : Array Oper} {Q : Exit → Act → World → Prop}
theorem goesV_ {oi : Oper} {N : Option Tmp} {a : Act} {w : World} {K : Act → World → Prop} {f : FuncId} {fn : Func} {c : Operand} {as : Array Operand} {ts : Array TypeId} (hf : P.funcs[f]? = some fn) (hname : (fn.name == "runtime.NumGoroutine") = false) (hb : fn.body.isSome = true) (args : Array Value)
    (hw : Region.wanted oi (yielded ops a.tmps) = true) (hN : oi.dst = N) (hop : oi.op = .call { callee := .value c, args := as, argTypes := ts }) (hc : a.eval c = .func (.func f) #[] #[]) (hargs : as.map a.eval = args)
    (h : Calls P f args w fun e w' => ∃ v, e = .returned v ∧ K (a.put N v) w') : if Region.wanted oi (yielded ops a.tmps) = true then Oper.wp P oi a w K Q else K (a.put N undef) w := by
  refine call_ f args hw hN ?_ h
  have he := enters_ hf hname hb args w
  unfold execOp
  simp [hop, resolve, Deferred.ofValue, invoke, hc, hargs, he]
end
end Go.Proofs.YtbekfmeaeaghpaaW.Hand
namespace Go.Proofs.YtbekfmeaeaghpaaW.Byt
open Go Go.RowKit Go.Proofs.YtbekfmeaeaghpaaW.PrintWords Go.Proofs.YtbekfmeaeaghpaaW.PrintLast Go.Proofs.YtbekfmeaeaghpaaW.PrintMore Go.Proofs.YtbekfmeaeaghpaaW.Hand
set_option linter.unusedVariables false
set_option linter.unusedSimpArgs false
/-- The bytes ns lie from block g's head on, c cells are there. -/
structure BytAt (W : World) (e : TypeId) (g c : Nat) (ns : List Int) : Prop where
  blk : ∃ cs m, W.heap[g]? = some (.cells cs e m) ∧ c ≤ cs.size ∧ (∀ j, j < c → ¬ (m.1 ≤ j ∧ j < m.2))
  cell : ∀ j, j < ns.length → W.cell? ⟨g, j, none⟩ = some (.int .u8 (ns.getD j 0))
  len : ns.length ≤ c
  cap : c ≤ maxLen
section
variable {W W1 : World} {e : TypeId} {g c : Nat} {ns : List Int}
theorem BytAt.lt (h : BytAt W e g c ns) : g < W.heap.size := by
  obtain ⟨cs, m, hb, _⟩ := h.blk
  exact blk_lt hb
theorem BytAt.below (h : BytAt W e g c ns) (hb : Below W.heap.size W W1) : BytAt W1 e g c ns := by
  obtain ⟨cs, m, h1, h2, h3⟩ := h.blk
  exact ⟨⟨cs, m, blk_below h1 hb, h2, h3⟩, fun j hj => pw_cell_below hb (h.cell j hj), h.len, h.cap⟩
theorem BytAt.take (h : BytAt W e g c ns) (k : Nat) : BytAt W e g c (ns.take k) :=
  ⟨h.blk, fun j hj => by
    have hj' : j < ns.length := by rw [List.length_take] at hj; omega
    rw [h.cell j hj']
    rw [List.length_take] at hj
    simp [List.getD_eq_getElem?_getD, List.getElem?_take, show j < k by omega], by rw [List.length_take]; have := h.len; omega, h.cap⟩
theorem BytAt.keep (h : BytAt W e g c ns) (hb : W1.heap[g]? = W.heap[g]?) : BytAt W1 e g c ns := by
  obtain ⟨cs, m, h1, h2, h3⟩ := h.blk
  exact ⟨⟨cs, m, hb.trans h1, h2, h3⟩, fun j hj => by have := h.cell j hj; simpa [World.cell?, hb] using this, h.len, h.cap⟩
theorem cell_mark {cs : Array Value} {m : Nat × Nat} (h : W.heap[g]? = some (.cells cs e m)) (j : Nat) : W.cell? ⟨g, j, none⟩ = cs[j]? := cell_of_row W g j cs e m h
theorem frozen_mark {cs : Array Value} {m : Nat × Nat} (h : W.heap[g]? = some (.cells cs e m)) {j : Nat} (hm : ¬ (m.1 ≤ j ∧ j < m.2)) : W.frozen? ⟨g, j, none⟩ = false := by
  obtain ⟨lo, hi⟩ := m
  simp only [World.frozen?, h]
  simpa using hm
theorem set_mark {cs : Array Value} {m : Nat × Nat} (h : W.heap[g]? = some (.cells cs e m)) (j : Nat) (x : Value) : (W.setCell ⟨g, j, none⟩ x).heap[g]? = some (.cells (cs.setIfInBounds j x) e m) := by
  obtain ⟨lo, hi⟩ := m
  simp [World.setCell, h, Array.getElem?_modify]
theorem BytAt.set (h : BytAt W e g c ns) {j : Nat} (hj : j < ns.length) (x : Int) : BytAt (W.setCell ⟨g, j, none⟩ (.int .u8 x)) e g c (ns.set j x) := by
  obtain ⟨cs, m, h1, h2, h3⟩ := h.blk
  refine ⟨⟨_, m, set_mark h1 j _, by rw [Array.size_setIfInBounds]; exact h2, h3⟩, fun i hi => ?_, by rw [List.length_set]; exact h.len, h.cap⟩
  rw [List.length_set] at hi
  rw [cell_mark (set_mark h1 j _), Array.getElem?_setIfInBounds]
  by_cases hij : j = i
  · subst hij
    have := h.len
    simp [List.getD_eq_getElem?_getD, hi, show j < cs.size by omega]
  · rw [if_neg hij, ← cell_mark h1 i, h.cell i hi]
    simp [List.getD_eq_getElem?_getD, List.getElem?_set_ne hij]
/-- A byte behind the last, where there is room. -/
theorem BytAt.push (h : BytAt W e g c ns) (hr : ns.length + 1 ≤ c) (x : Int) : BytAt (W.setCell ⟨g, ns.length, none⟩ (.int .u8 x)) e g c (ns ++ [x]) := by
  obtain ⟨cs, m, h1, h2, h3⟩ := h.blk
  refine ⟨⟨_, m, set_mark h1 _ _, by rw [Array.size_setIfInBounds]; exact h2, h3⟩, fun i hi => ?_, by simpa using hr, h.cap⟩
  rw [List.length_append, List.length_singleton] at hi
  rw [cell_mark (set_mark h1 _ _), Array.getElem?_setIfInBounds]
  by_cases hij : ns.length = i
  · subst hij
    simp [List.getD_eq_getElem?_getD, show ns.length < cs.size by omega]
  · have hi' : i < ns.length := by omega
    rw [if_neg hij, ← cell_mark h1 i, h.cell i hi']
    simp [List.getD_eq_getElem?_getD, List.getElem?_append_left hi']
theorem BytAt.of_own {b : Nat} {n : Nat} {A : Option Addr} (h : W.ownsRow b e 1 (.slice A n c) n (nums .u8 ns)) (hp : 0 < n) : ∃ g, A = some ⟨g, 0, none⟩ ∧ b ≤ g ∧ n = ns.length ∧ BytAt W e g c ns := by
  have hl : ns.length = n := by have := h.1; simp [nums] at this; exact this
  rcases h.2 with ⟨hv, _⟩ | ⟨g, cap, cur, hv, hb, hh, hnc, hcm, hcs, ht⟩
  · cases hv; omega
  · injection hv with ha _ hc
    subst ha
    subst hc
    refine ⟨g, rfl, hb, hl.symm, ⟨⟨cur, (0, 0), hh, by omega, fun j _ hm => by omega⟩, fun j hj => ?_, by omega, hcm⟩⟩
    rw [← add_plain]
    exact h.cells (g := g) rfl j (.int .u8 (ns.getD j 0)) (by simp [nums, List.getD_eq_getElem?_getD, hj])
end
def numsOf (s : ByteArray) : List Int := s.data.toList.map fun b => (b.toNat : Int)
theorem numsOf_str (ds : List Int) (h : ∀ d ∈ ds, 0 ≤ d ∧ d < 256) : numsOf (strOfNums ds) = ds := by
  unfold numsOf strOfNums
  rw [List.map_map]
  have : ∀ l : List Int, (∀ d ∈ l, 0 ≤ d ∧ d < 256) → l.map ((fun b : UInt8 => (b.toNat : Int)) ∘ fun n : Int => UInt8.ofNat n.toNat) = l := by
    intro l
    induction l with
    | nil => intro _; rfl
    | cons d l ih =>
      intro hl
      rw [List.map_cons, ih (fun x hx => hl x (by simp [hx]))]
      congr 1
      have := hl d (by simp)
      simp only [Function.comp, UInt8.toNat_ofNat']
      omega
  exact this ds h
section
variable {P : Program} {ops : Array Oper} {rest : List Oper} {o : Oper} {a : Act} {Q : Exit → Act → World → Prop}
/-- '[]byte(s)'. -/
theorem bytes_event {W : World} {src dst e : TypeId} {x : Operand} {s : ByteArray} (hgd : o.guard = none) (ho : o.op = .convert src dst x) (hx : a.eval x = .string s) (hs : P.underlying src = some .string) (hd : P.underlying dst = some (.slice e)) (he : P.underlying e = some (.int .u8)) (hm : s.size ≤ 140737488355328) (hcap : ∀ w : World, grownCap w s.size 0 e ≤ maxLen)
    (h : ∀ g c w1, W.heap.size ≤ g → BytAt w1 e g c (numsOf s) → Below W.heap.size W w1 → wpList P ops Q rest (a.put o.dst (.slice (some ⟨g, 0, none⟩) s.size c)) w1) : wpList P ops Q (o :: rest) a W := by
  have hrun : (execOp a.eval o).run P W = .ok (.value (.slice (some ⟨W.heap.size, 0, none⟩) s.size (grownCap W s.size 0 e))) (W.drew.alloc (.cells (bytesRow s (grownCap W s.size 0 e)) e ((bytesRow s (grownCap W s.size 0 e)).size, (bytesRow s (grownCap W s.size 0 e)).size + 1))) := by
    unfold execOp
    rw [ho]
    simp only [hx]
    rw [Sem.run_bind, run_bytes_of_string W src dst e s hs hd he]
    rfl
  refine Kd.event_run hgd hrun (h _ _ _ (Nat.le_refl _) ?_ (below_alloc (below_drew (Below.refl _ _)) _))
  have hge := grownCap_ge W s.size 0 e
  have hsz : (bytesRow s (grownCap W s.size 0 e)).size = grownCap W s.size 0 e := by
    simp only [bytesRow, Array.size_append, Array.size_map, Array.size_replicate]
    have : s.data.size = s.size := rfl
    omega
  have hb : (W.drew.alloc (.cells (bytesRow s (grownCap W s.size 0 e)) e ((bytesRow s (grownCap W s.size 0 e)).size, (bytesRow s (grownCap W s.size 0 e)).size + 1))).heap[W.heap.size]? = some _ := heap_alloc_new W.drew _
  refine ⟨⟨_, _, hb, Nat.le_of_eq hsz.symm, fun j hj hm => by simp only at hm; omega⟩, fun j hj => ?_, by simpa [numsOf] using hge, hcap W⟩
  rw [cell_mark hb]
  have hj' : j < s.data.size := by simpa [numsOf] using hj
  have hj2 : j < s.size := hj'
  simp [bytesRow, numsOf, hj', hj2, List.getD_eq_getElem?_getD, Array.getElem?_append]
/-- 'string(b)'. -/
theorem string_event {W : World} {src dst e : TypeId} {x : Operand} {g c n : Nat} {ns : List Int} (hgd : o.guard = none) (ho : o.op = .convert src dst x) (hx : a.eval x = .slice (some ⟨g, 0, none⟩) n c) (hn : ns.length = n) (hs : P.underlying src = some (.slice e)) (he : P.underlying e = some (.int .u8)) (hd : P.underlying dst = some .string)
    (hB : ∀ j, j < ns.length → W.cell? ⟨g, j, none⟩ = some (.int .u8 (ns.getD j 0))) (h : wpList P ops Q rest (a.put o.dst (.string (strOfNums ns))) W) : wpList P ops Q (o :: rest) a W := by
  have hrun : (execOp a.eval o).run P W = .ok (.value (.string (strOfNums ns))) W := by
    unfold execOp
    rw [ho]
    simp only [hx]
    rw [Sem.run_bind, run_convert_bytes_arg W src e hs he g 0 n c ns hn (fun i hi => by rw [Nat.zero_add]; exact hB i (by omega)) dst hd]
    rfl
  exact Kd.event_run hgd hrun h
/-- 'b[j] = x'. -/
theorem storeByte_event {W : World} {e t : TypeId} {g c j : Nat} {ns : List Int} {x : Int} {p v : Operand} (hgd : o.guard = none) (ho : o.op = .store t p v) (hN : o.dst = none) (hp : a.eval p = .pointer (some ⟨g, j, none⟩)) (hv : a.eval v = .int .u8 x) (hi : (P.info? t).map (·.size) = some 1)
    (hB : BytAt W e g c ns) (hj : j < ns.length)
    (h : ∀ w', BytAt w' e g c (ns.set j x) → (∀ B wb, B ≤ g → Below B wb W → Below B wb w') → (∀ k, k ≠ g → k < W.heap.size → w'.heap[k]? = W.heap[k]?) → wpList P ops Q rest a w') : wpList P ops Q (o :: rest) a W := by
  obtain ⟨cs, m, h1, h2, h3⟩ := hB.blk
  have hjc : j < c := by have := hB.len; omega
  have hs : (storeVar t ⟨g, j, none⟩ (.int .u8 x)).run P W = .ok () (W.setCell ⟨g, j, none⟩ (.int .u8 x)) := by
    have := run_storeCells_cells (P := P) g j [.int .u8 x] 0 W (fun i hi => by
        obtain rfl : i = 0 := by simpa using hi
        simp only [Nat.add_zero]
        rw [cell_mark h1]; simp [show j < cs.size by omega])
      (fun i hi => by
        obtain rfl : i = 0 := by simpa using hi
        exact frozen_mark h1 (h3 j hjc)) (fun v hv => by rw [List.mem_singleton.1 hv]; rfl)
    cases hq : P.info? t with
    | none => simp [hq] at hi
    | some i =>
      have hs : 1 = i.size := by simp [hq] at hi; omega
      simp only [Nat.add_zero] at this
      rw [← setCells_one]
      simp [storeVar, sizeOf, typeInfo, hq, Value.cells, ← hs, this]
  have hrun : (execOp a.eval o).run P W = .ok .skip (W.setCell ⟨g, j, none⟩ (.int .u8 x)) := by
    have hsa : (Instr.storeAt t (.pointer (some ⟨g, j, none⟩)) (.int .u8 x)).run P W = .ok () (W.setCell ⟨g, j, none⟩ (.int .u8 x)) := by
      unfold Instr.storeAt
      have ha : (Instr.sureAddr (.pointer (some ⟨g, j, none⟩))).run P W = .ok ⟨g, j, none⟩ W := by simp [Instr.sureAddr, go_sem]
      rw [Sem.run_bind, ha]
      exact hs
    unfold execOp
    rw [ho]
    simp only [hp, hv]
    rw [Sem.run_bind, hsa]
    rfl
  refine wpList_plain hgd fun K hK => ?_
  unfold Oper.wp
  rw [hrun]
  show K (a.put o.dst undef) _
  rw [hN]
  exact hK _ _ (h _ (hB.set hj x) (fun B wb hB' hb => hb.setCell hB' _) (fun k hk _ => Below.heap_setCell W ⟨g, j, none⟩ _ k hk))
/-- 'append(b, x)', behind the literal's block. -/
theorem appendByte_event {W : World} {e t : TypeId} {g c n gl : Nat} {ns : List Int} {x : Int} {s y : Operand} (hgd : o.guard = none) (ho : o.op = .call { callee := .builtin .append, args := #[s, y], argTypes := #[t, t] })
    (ht : P.underlying t = some (.slice e)) (hinfo : (P.info? e).map (fun i => (i.zero, i.size, i.bytes)) = some (some (.int .u8 0), 1, 1)) (hs : a.eval s = .slice (some ⟨g, 0, none⟩) n c) (hn : ns.length = n) (hy : a.eval y = .slice (some ⟨gl, 0, none⟩) 1 1)
    (hB : BytAt W e g c ns) (hl : W.cell? ⟨gl, 0, none⟩ = some (.int .u8 x)) (hmax : ns.length + 1 ≤ 140737488355328) (hp : 1 ≤ n)
    (h : ∀ g' c' w', BytAt w' e g' c' (ns ++ [x]) → (∀ B wb, B ≤ g → B ≤ W.heap.size → Below B wb W → Below B wb w') → (∀ k, k ≠ g → k < W.heap.size → w'.heap[k]? = W.heap[k]?) → (g' = g ∨ W.heap.size ≤ g') → wpList P ops Q rest (a.put o.dst (.slice (some ⟨g', 0, none⟩) (n + 1) c')) w') : wpList P ops Q (o :: rest) a W := by
  obtain ⟨i, hi, hz, h1, h2⟩ : ∃ i, P.info? e = some i ∧ i.zero = some (.int .u8 0) ∧ i.size = 1 ∧ i.bytes = 1 := by
    cases hq : P.info? e with
    | none => simp [hq] at hinfo
    | some i => simp [hq] at hinfo; exact ⟨i, rfl, hinfo.1, hinfo.2.1, hinfo.2.2⟩
  obtain ⟨cs, m, b1, b2, b3⟩ := hB.blk
  have hnews : ∀ (j : Nat) u, [Value.int .u8 x][j]? = some u → W.cell? ((⟨gl, 0, none⟩ : Addr).add j) = some u := by
    intro j u hu
    cases j with
    | zero => simp at hu; rw [← hu, add_plain]; exact hl
    | succ j => simp at hu
  subst hn
  have hb : ∀ w', (Builtin.append_ #[t, t] o.type #[.slice (some ⟨g, 0, none⟩) ns.length c, .slice (some ⟨gl, 0, none⟩) 1 1]).run P W = w' → (execOp a.eval o).run P W = w'.andThen fun v w' => .ok (.value v) w' := by
    intro w' hw
    unfold execOp
    simp [ho, resolve, Deferred.ofValue, invoke, hs, hy, builtin, hw]
  by_cases hroom : ns.length + 1 ≤ c
  · have hr := run_append_room_cells (P := P) W t o.type e i ht hi g 0 ns.length c ⟨gl, 0, none⟩ 1 1 [.int .u8 x] (by rw [h1]; rfl) hnews (fun u hu => by rw [List.mem_singleton.1 hu]; rfl) hroom
      (fun j hj => by
        obtain rfl : j = 0 := by simpa using hj
        rw [h1, Nat.mul_one, Nat.zero_add, Nat.add_zero, cell_mark b1]; simp [show ns.length < cs.size by omega])
      (fun j hj => by
        obtain rfl : j = 0 := by simpa using hj
        rw [h1, Nat.mul_one, Nat.zero_add, Nat.add_zero]; exact frozen_mark b1 (b3 _ (by omega)))
    rw [h1, Nat.mul_one, Nat.zero_add, setCells_one] at hr
    exact Kd.event_run hgd (hb _ hr) (h _ _ _ (hB.push hroom x) (fun B wb hB' _ hbb => hbb.setCell hB' _) (fun k hk _ => Below.heap_setCell W ⟨g, _, none⟩ _ k hk) (.inl rfl))
  · obtain ⟨v', w', hr, hown, hg⟩ := run_append_arg_grows (P := P) W t o.type e i (.int .u8 0) 1 1 ht hi hz h1 h2 rfl (by decide) ⟨g, 0, none⟩ ns.length c (nums .u8 ns) (by simp [nums]) (fun j u hu => by
        have hj : j < ns.length := by
          have := (List.getElem?_eq_some_iff.1 hu).1
          simpa [nums] using this
        rw [add_plain, hB.cell j hj]
        simp [nums, List.getElem?_eq_getElem hj] at hu
        rw [← hu]
        simp [List.getD_eq_getElem?_getD, hj]) ⟨gl, 0, none⟩ 1 1 [.int .u8 x] rfl hnews (by omega) (by unfold maxLen; omega) (by omega)
    obtain ⟨A', c', rfl⟩ := own_slice hown
    have hown' : w'.ownsRow W.heap.size e 1 (.slice A' (ns.length + 1) c') (ns.length + 1) (nums .u8 (ns ++ [x])) := by
      rw [nums_append]; exact hown
    obtain ⟨g', rfl, hge, _, hBy⟩ := BytAt.of_own hown' (by omega)
    exact Kd.event_run hgd (hb _ hr) (h _ _ _ hBy (fun B wb _ hW hbb => hbb.grown hg hW (fun k hk => by cases hk)) (fun k _ hk => hg.block k hk (by simp)) (.inr hge))
end
end Go.Proofs.YtbekfmeaeaghpaaW.Byt
