/-
  What the claim leans on, cut to what is used (wip/tools/prune15.py): words, printed functions, walks.
-/
import Derived.Test.YtkdoijfjceeblaaDoorQE15A
import Derived.RangeFuncLeaves
namespace Go.Proofs.YtkdoijfjceeblaaDoorW.Hand
open Go Go.RowKit
set_option linter.unusedVariables false
def wpAt (f0 : FuncId) (F : Fence) (n : Nat) (P : Program) (c : Code) (Q : Exit → Act → World → Prop) (a : Act) (w : World) : Prop :=
 ∀ (b : Frame) (k : List Item) (cs : List Frame), b.fn = f0 → b.roundOf = F.round → F.fn b.fn → F.room (cs.length + 1 + n) →
  ∃ e a' w', Q e a' w' ∧ ArrivesIn (Machine.fenced P F) P (lone (b.atR a (.code c :: k)) cs w) b k cs e a' w'
section
variable {f0 : FuncId} {F : Fence} {n : Nat} {P : Program} {Q : Exit → Act → World → Prop} {a : Act} {w : World}
theorem wpAt_in {c : Code} (h : c.wpIn F n P Q a w) : wpAt f0 F n P c Q a w := fun b k cs _ hro hb hr => h b k cs hro hb hr
theorem wpAt_seq {x y : Code} (h : wpAt f0 F n P x (Exit.then (fun a w => wpAt f0 F n P y Q a w) Q) a w) : wpAt f0 F n P (Code.seq x y) Q a w := by
 intro b k cs h0' hro hb hr
 have h0 : (lone (b.atR a (.code (.seq x y) :: k)) cs w).fenced P F := fenced_calm hb hr rfl
 obtain ⟨e, a₁, w₁, hq, harr⟩ := h b (.code y :: k) cs h0' hro hb hr
 cases e with
 | normal =>
  obtain ⟨e₂, a₂, w₂, hq₂, harr₂⟩ := hq b k cs h0' hro hb hr
  exact ⟨e₂, a₂, w₂, hq₂, .of_steps (.head h0 stepR_seq harr) harr₂⟩
 | exit id => exact ⟨_, a₁, w₁, hq, .of_steps (.one h0 stepR_seq) (.pass (x := .code y) rfl (fun _ _ => .inl (by simp)) harr)⟩
 | goto l => exact ⟨_, a₁, w₁, hq, .of_steps (.one h0 stepR_seq) (.pass (x := .code y) rfl (fun _ _ => .inl (by simp)) harr)⟩
 | ret => exact ⟨_, a₁, w₁, hq, .of_steps (.one h0 stepR_seq) (.pass (x := .code y) rfl (fun _ _ => .inl (by simp)) harr)⟩
 | panic ch => exact ⟨_, a₁, w₁, hq, .of_steps (.one h0 stepR_seq) (.pass (x := .code y) rfl (fun _ _ => .inl (by simp)) harr)⟩
 | outgrown => exact ⟨_, a₁, w₁, hq, .of_steps (.one h0 stepR_seq) (.pass (x := .code y) rfl (fun _ _ => .inl (by simp)) harr)⟩
theorem wpAt_block {id : Nat} {c : Code} (h : wpAt f0 F n P c (fun e a w => match e with
  | .normal => Q .normal a w
  | .panic ch => Q (.panic ch) a w
  | _ => False) a w) : wpAt f0 F n P (Code.block id c) Q a w := by
 intro b k cs h0' hro hb hr
 have h0 : (lone (b.atR a (.code (.block id c) :: k)) cs w).fenced P F := fenced_calm hb hr rfl
 obtain ⟨e, a₁, w₁, hq, harr⟩ := h b (.inBlock id :: k) cs h0' hro hb hr
 cases e with
 | normal => exact ⟨.normal, a₁, w₁, hq, .head h0 stepR_block (StepsIn.trans harr (.one (fenced_calm hb hr rfl) stepR_inBlock))⟩
 | panic ch =>
  obtain ⟨todo, hs⟩ := harr
  exact ⟨.panic ch, a₁, w₁, hq, todo, .head h0 stepR_block hs⟩
 | exit id' => exact hq.elim
 | goto l => exact hq.elim
 | ret => exact hq.elim
 | outgrown => exact hq.elim
def rangePostP (P : Program) (l : Nat) (Q : Exit → Act → World → Prop) (a' : Act) : Ending → World → Prop
 | .returned _, w₃ => ∃ w₄, (Instr.endLoop l).run P w₃ = .ok none w₄ ∧ Q .normal a' w₄
 | .panicked chain, w₃ => Q (.panic chain) a' w₃
 | .outgrown, _ => False
theorem wpAt_rangeFunc {g : Operand} {ps : Array Tmp} {assign body : Code}
  (h : ∃ (l : Nat) (mark : List Deferred) (w₁ : World) (d : Deferred) (w₁' : World) (f : FuncId) (args : Array Value) (w₂ : World),
   (Instr.enterLoop f0 a.tmps ps assign body F.round).run P w = .ok (l, mark) w₁ ∧
   (resolve a.eval (rangeCall g l) 0).run P w₁ = .ok d w₁' ∧
   (∀ f', Target.leads P w₁' d.target d.args = some f' → F.fn f') ∧
   (invoke d.target d.args).run P w₁' = .ok (.enter f args) w₂ ∧
   (F.depth.isSome = true → 1 ≤ n) ∧
   CallsIn F (n - 1) P f args w₂ (rangePostP P l Q { a with defers := mark ++ a.defers })) :
  wpAt f0 F n P (Code.rangeFunc g ps assign body) Q a w := by
 intro b k cs h0' hro hb hr
 obtain ⟨l, mark, w₁, d, w₁', f, args, w₂, he, hres, hlead, hinv, hn, hF, hcall⟩ := h
 subst h0'
 rw [← hro] at he
 have h0 : (lone (b.atR a (.code (.rangeFunc g ps assign body) :: k)) cs w).fenced P F := by
  refine fenced_lone (.inl hb) (fun f' hf' => hlead f' ?_) (Fence.room_le hr (by omega))
  have hev := Frame.eval_atR b a (.code (.rangeFunc g ps assign body) :: k)
  simp only [Frame.atR] at hev
  simp only [Frame.about, Frame.atR, he, hev, hres] at hf'
  exact hf'
 have henter := stepR_rangeFunc (P := P) (b := b) (a := a) (k := k) (cs := cs) (w := w) he hres hinv
 have hroom : F.room ((b.atR { a with defers := mark ++ a.defers } (.inRangeFunc l :: k) :: cs).length + 1 + (n - 1)) := Fence.room_enter hr hn
 obtain ⟨e, w₃, fr, hR, hsteps, hfn, hleave⟩ := hcall (b.atR { a with defers := mark ++ a.defers } (.inRangeFunc l :: k) :: cs) hroom
 cases e with
 | outgrown => exact hR.elim
 | returned v =>
  have hl : (lone fr (b.atR { a with defers := mark ++ a.defers } (.inRangeFunc l :: k) :: cs) w₃).fenced P F := fenced_leaving (hfn ▸ hF) hroom hleave
  obtain ⟨w₄, hend, hj⟩ := hR
  have sback : StepsIn (Machine.fenced P F) P (lone (b.atR a (.code (.rangeFunc g ps assign body) :: k)) cs w) (lone (b.atR { a with defers := mark ++ a.defers } (((none : Option Code).map Item.code).toList ++ k)) cs w₄) := by
   refine .head h0 henter (StepsIn.trans hsteps (.head hl ?_ (.one (fenced_calm (fr := b.atR { a with defers := mark ++ a.defers } (.endRangeFunc l :: k)) hb hr rfl) (stepR_endRangeFunc hend))))
   rw [← finish_atR_inRangeFunc l v]; exact step_leave_returned hleave
  exact ⟨.normal, _, w₄, hj, sback⟩
 | panicked chain =>
  have hl : (lone fr (b.atR { a with defers := mark ++ a.defers } (.inRangeFunc l :: k) :: cs) w₃).fenced P F := fenced_leaving (hfn ▸ hF) hroom hleave
  refine ⟨.panic chain, _, w₃, hR, .inRangeFunc l :: k, .head h0 henter (StepsIn.trans hsteps (.one hl ?_))⟩
  rw [← Frame.raise_atR]; exact step_leave_panicked hleave
theorem callsIn_at_marks {f : FuncId} {fn : Func} {c : Code} {args : Array Value} {R : Ending → World → Prop}
  (hf : P.funcs[f]? = some fn) (hb : fn.body = some c) (hF : F.fn f)
  (h : wpAt f F n P c (bodyPostM F n P fn R) { tmps := args ++ Array.replicate (fn.ntmps - args.size) undef, defers := [] } w) (hro : F.round = none := by rfl) : CallsIn F n P f args w R := by
 refine ⟨hF, fun cs hr => ?_⟩
 let b : Frame := { (default : Frame) with fn := f, kind := .normal, roundOf := none }
 have henter : Frame.enter P f args .normal =
   b.atR { tmps := args ++ Array.replicate (fn.ntmps - args.size) undef, defers := [] } [.code c] := by
  simp [Frame.enter, Frame.atR, hf, hb, b]
 obtain ⟨e, a', w', hq, harr⟩ := h b [] cs rfl hro.symm hF hr
 rw [← henter] at harr
 cases e with
 | normal =>
  obtain ⟨e', w'', fr', hR, hs, hfn, hl⟩ := leaves_stepsInM a'.defers .returning w' { b.atR a' [] with mode := .returning } cs rfl rfl rfl hf rfl hF hr hq
  exact ⟨e', w'', fr', hR, ComesIn.of_steps (StepsIn.trans harr (.one (fenced_calm (fr := b.atR a' []) hF hr rfl) (stepR_end rfl))) hs, hfn, hl⟩
 | ret =>
  obtain ⟨todo, hs₀⟩ := harr.1 rfl
  obtain ⟨e', w'', fr', hR, hs, hfn, hl⟩ := leaves_stepsInM a'.defers .returning w' { b.atR a' todo with mode := .returning } cs rfl rfl rfl hf rfl hF hr hq
  exact ⟨e', w'', fr', hR, ComesIn.of_steps hs₀ hs, hfn, hl⟩
 | panic chain =>
  obtain ⟨todo, hs₀⟩ := harr
  obtain ⟨e', w'', fr', hR, hs, hfn, hl⟩ := leaves_stepsInM a'.defers (.panicking chain) w' { b.atR a' todo with mode := .panicking chain } cs rfl rfl rfl hf rfl hF hr hq
  exact ⟨e', w'', fr', hR, ComesIn.of_steps hs₀ hs, hfn, hl⟩
 | exit id => exact hq.elim
 | goto l => exact hq.elim
 | outgrown => exact ⟨.outgrown, w', b, hq, harr.resolve_left (by simp [b]), rfl, trivial⟩
end
def OwnN {β : Type} (B : Nat) (I : β → World → Prop) : Prop := ∀ s W W' r o, I s W → W.grownBy W' (some r) → B ≤ r → W.heap[r]? = some o → o.isCells = false → I s W'
def SeqQ {α : Type} (F : Fence) (n : Nat) (P : Program) (g : Nat) (lb : Array Value) (encs : α → Array Value) (Bt : Nat → Prop) (Gd : α → Prop) (S Sp : List α → Prop) (Sq : List PanicEntry → List α → Prop) (w : World) : Prop :=
 ∀ (l : Nat) (J : List α → World → Prop) (Jp : List PanicEntry → List α → World → Prop) (W : World), Below w.heap.size w W → OwnT Bt J → (∀ ch, OwnT Bt (Jp ch)) →
  (∀ pre x W1, Gd x → J pre W1 → YieldAt F (n - 1) P l (encs x) W1 fun e W' => (∀ k, Bt k → W'.heap[k]? = W1.heap[k]?) ∧ Below 0 W1 W' ∧ ((e = .returned (.bool true) ∧ J (pre ++ [x]) W') ∨ ∃ ch, e = .panicked ch ∧ Jp ch (pre ++ [x]) W')) →
  J [] W → CallsIn F n P g (#[.func (.yield l) #[] #[]] ++ lb) W fun e W' =>
   ((∃ v, e = .returned v) ∧ ∃ xs, S xs ∧ J xs W') ∨ (∃ ch pre, e = .panicked ch ∧ ((Sq ch pre ∧ J pre W') ∨ (Sp pre ∧ Jp ch pre W')))
section
variable {F : Fence} {n : Nat} {P : Program}
theorem range_at {α : Type} {g : Operand} {ps : Array Tmp} {assign body : Code} {Q : Exit → Act → World → Prop} {a : Act} {w : World}
  {fn : FuncId} {fu : Func} (hfu : P.funcs[fn]? = some fu) (hfn : F.fn fn) (hro : F.round = none) (h1 : 1 ≤ n) {gf : Nat} {lb : Array Value} (hg : a.eval g = .func (.func gf) #[] lb) (hFg : F.fn gf) (eg : ∀ args w, (callFunc gf args).run P w = .ok (.enter gf args) w)
  {encs : α → Array Value} {Bt : Nat → Prop} {Gd : α → Prop} {S Sp : List α → Prop} {Sq : List PanicEntry → List α → Prop} {w0 : World} (hseq : SeqQ F (n - 1) P gf lb encs Bt Gd S Sp Sq w0)
  (hBt : ∀ k, Bt k → k < w.heap.size) (hb0 : Below w0.heap.size w0 w) (hps : ∀ x, (encs x).size = ps.size)
  (I : List α → World → Prop) (Ip : List PanicEntry → List α → World → Prop) (hI : OwnT Bt I) (hIn : OwnN w.heap.size I) (hIp : ∀ c, OwnT Bt (Ip c)) (h0 : I [] w) (a₁ : α → Act)
  (hassign : ∀ (l : Nat) (x : α) (W : World) (K : Act → World → Prop), K (a₁ x) W → assign.wpIn (F.inRound l) (n - 1 - 1) P (Exit.then K (fun _ _ _ => False)) { tmps := (ps.zip (encs x)).foldl (fun t (p, v) => t.setIfInBounds p v) a.tmps, defers := [] } W)
  (hbody : ∀ (l : Nat) (pre : List α) (x : α) (W : World), Gd x → w.heap.size < l → l < W.heap.size → I pre W → body.wpIn (F.inRound l) (n - 1 - 1) P (panPost Bt I Ip (pre ++ [x]) W) (a₁ x) W)
  (hdone : ∀ (D : Nat) (xs : List α) (W : World), w.heap.size ≤ D → S xs → I xs W → W.heap[D]? = some (.deferred (some [])) → Q .normal { a with defers := { target := .collected D, args := #[] } :: a.defers } W)
  (hpan : ∀ (D : Nat) (ch : List PanicEntry) (pre : List α) (W : World), w.heap.size ≤ D → (Sq ch pre ∧ I pre W) ∨ (Sp pre ∧ Ip ch pre W) → W.heap[D]? = some (.deferred (some [])) → Q (.panic ch) { a with defers := { target := .collected D, args := #[] } :: a.defers } W) :
  wpAt fn F n P (Code.rangeFunc g ps assign body) Q a w := by
 refine wpAt_rangeFunc ?_
 rw [hro]
 let mk : LoopState → Option Code → Loop := fun st pe => { state := st, pending := pe, fn, tmps := a.tmps, params := ps, assign, body, defers := w.heap.size }
 generalize hr0 : mk = rc
 obtain ⟨W1, hW1⟩ : ∃ W1, (w.alloc (.deferred (some []))).alloc (.loop (rc .ready none)) = W1 := ⟨_, rfl⟩
 have hsz : W1.heap.size = w.heap.size + 2 := by rw [← hW1]; simp
 have hR1 : RecAtP w W1 rc .ready none := by
  rw [← hW1]
  have e := World.alloc_heap_new (w.alloc (.deferred (some []))) (.loop (rc .ready none))
  rw [World.size_alloc] at e
  exact ⟨e, (Below.heap_alloc _ _ _ (by simp)).trans (World.alloc_heap_new w _)⟩
 have lift : ∀ {s A}, I s A → ∀ {k : Nat} {o1 : Obj} (o : Obj), w.heap.size ≤ k → A.heap[k]? = some o1 → o1.isCells = false → I s (A.putObj k o) := fun hs k o1 o hk h1 h2 => hIn _ _ _ k o1 hs (grownBy_putObj' _ k o) hk h1 h2
 have hI1 : I [] W1 := by
  rw [← hW1]
  exact hI _ _ _ none (hI _ _ _ none h0 (World.grownBy_alloc w _ none) (fun r e => by cases e)) (World.grownBy_alloc _ _ none) (fun r e => by cases e)
 have hb1 : Below w0.heap.size w0 W1 := by
  rw [← hW1]
  exact hb0.trans ((((Below.refl _ w).alloc (Nat.le_refl _) _).alloc (by simp) _).mono hb0.size)
 have ne1 : ∀ k, Bt k → k ≠ w.heap.size + 1 := fun k hk => by have := hBt k hk; omega
 have ne0 : ∀ k, Bt k → k ≠ w.heap.size := fun k hk => by have := hBt k hk; omega
 have recOwn : ∀ (st : LoopState) (pe : Option Code), OwnT Bt (fun (_ : List α) W => RecAtP w W rc st pe) := fun st pe =>
  (OwnT.block (fun h => ne1 _ h rfl)).and (OwnT.block (fun h => ne0 _ h rfl))
 refine ⟨w.heap.size + 1, [{ target := .collected w.heap.size, args := #[] }], W1, { target := .fn (.func gf) lb, args := #[.func (.yield (w.heap.size + 1)) #[] #[]] }, W1, gf, #[.func (.yield (w.heap.size + 1)) #[] #[]] ++ lb, W1, ?_, ?_, ?_, ?_, fun _ => h1, ?_⟩
 ·rw [← hW1, ← hr0]
  exact run_enterLoop_outer _ _ _ _ _
 ·simp only [resolve, hg]
  simp [go_sem]
 ·intro f' hf'
  simp [Target.leads] at hf'
  subst hf'
  exact hFg
 ·simp [invoke, go_sem, eg]
 ·refine (hseq (w.heap.size + 1) (fun pre W => I pre W ∧ RecAtP w W rc .ready none) (fun ch pre W => Ip ch pre W ∧ RecAtP w W rc .busy none) W1 hb1 (hI.and (recOwn .ready none)) (fun ch => (hIp ch).and (recOwn .busy none)) ?_ ⟨hI1, hR1⟩).mono ?_
  ·rintro pre x W hgd ⟨hi, hl, hk⟩
   have hlt : w.heap.size + 1 < W.heap.size := (Array.getElem?_eq_some_iff.1 hl).1
   have hy := run_yield (P := P) (args := encs x) hl (by rw [← hr0]; exact hps x)
   rw [← hr0] at hy
   refine ⟨fn, _, assign, body, hy, roundIn_pan hfu hfn (hassign _ x W _ ⟨_, run_beginRound hl (by rw [← hr0]), ?_⟩)⟩
   generalize hb : ({ rc .ready none with state := .busy } : Loop) = busy
   have hbz : busy = rc .busy none := by rw [← hb, ← hr0]
   have hl2 : (W.putObj (w.heap.size + 1) (.loop busy)).heap[w.heap.size + 1]? = some (.loop busy) := World.putObj_heap_same hlt
   have hk2 : (W.putObj (w.heap.size + 1) (.loop busy)).heap[w.heap.size]? = some (.deferred (some [])) := (World.putObj_heap_other (by omega)).trans hk
   have bt2 : ∀ k, Bt k → (W.putObj (w.heap.size + 1) (.loop busy)).heap[k]? = W.heap[k]? := fun k hk => World.putObj_heap_other (by have := hBt k hk; omega)
   refine wpIn_mono (hbody _ pre x _ hgd (by omega) (by simpa [World.putObj] using hlt) (lift hi _ (by omega) hl rfl)) ?_
   rintro e a3 W3 hp
   cases e with
   | normal =>
    obtain ⟨hk3, hbt3, hb3, hi3⟩ := hp
    have hl3 := hk3.same _ _ hl2 rfl
    have hr := run_endRound (P := P) none hl3
    have e1 : ({ busy with state := .ready, pending := none } : Loop) = rc .ready none := by rw [hbz, ← hr0]
    rw [show (if (none : Option Code).isNone then LoopState.ready else LoopState.done) = LoopState.ready from rfl, e1] at hr
    refine ⟨_, _, hr, fun k hk => (World.putObj_heap_other (by have := hBt k hk; omega)).trans ((hbt3 k hk).trans (bt2 k hk)), (below0_put _ _ _).trans (hb3.trans (below0_put _ _ _)), .inl ⟨rfl, lift hi3 _ (by omega) hl3 rfl, World.putObj_heap_same (Array.getElem?_eq_some_iff.1 hl3).1, (World.putObj_heap_other (by omega)).trans (hk3.same _ _ hk2 rfl)⟩⟩
   | panic ch =>
    obtain ⟨hd, hk3, hbt3, hb3, hi3⟩ := hp
    have hl3 := hk3.same _ _ hl2 rfl
    exact ⟨hd, fun k hk => (hbt3 k hk).trans (bt2 k hk), (below0_put _ _ _).trans hb3, .inr ⟨ch, rfl, hi3, hbz ▸ hl3, hk3.same _ _ hk2 rfl⟩⟩
   | ret => exact hp.elim
   | exit id => exact hp.elim
   | goto t => exact hp.elim
   | outgrown => exact hp.elim
  ·rintro e W2 (⟨⟨v, rfl⟩, xs, hS, hi, hl, hk⟩ | ⟨ch, pre, rfl, (⟨hS, hi, hl, hk⟩ | ⟨hS, hi, hl, hk⟩)⟩)
   ·have hr := run_endLoop (P := P) hl (by rw [← hr0]; simp [mk])
    rw [← hr0] at hr
    exact ⟨_, hr, hdone _ xs _ (Nat.le_refl _) hS (lift hi _ (by omega) hl rfl) ((World.putObj_heap_other (by omega)).trans hk)⟩
   ·exact hpan _ ch pre _ (Nat.le_refl _) (.inl ⟨hS, hi⟩) hk
   ·exact hpan _ ch pre _ (Nat.le_refl _) (.inr ⟨hS, hi⟩) hk
end
end Go.Proofs.YtkdoijfjceeblaaDoorW.Hand
