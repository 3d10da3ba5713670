/-
  Instructions with their depths, in the row of All; the first error among them; plain. A range over a function whose iterator keeps a state of its own in cells: the contract, and the caller's law. (The kit's laws on such loops let the iterator turn walks of maps alone; here it may turn whatever it has laid itself since its call began.) Steps of a region that draws its order and holds a call of yield, inside the wide fence. The walker goes over a list; what Each yields. Each, May. instr.Count: how many instructions Each yields.
-/
import Derived.Test.YtbekfmeaeaghpaaFx0
import Derived.Test.YtbekfmeaeaghpaaD14C
import Derived.RangeFuncFrom
import Derived.Test.YtbekfmeaeaghpaaD14A
import Derived.RangeFuncSeq
import Derived.RangeFuncBound
import Derived.RegionIn
import Derived.RangeFuncCalls
import Derived.RangeFuncLeaves
import Derived.RangeFuncBox
import Derived.Shelf.Abstract
import Derived.OwnWalkIn
import Derived.TacticsInMore
import Derived.LoopNIn
import Derived.LoopIn
namespace Go.Proofs.Ytbekfmeaeaghpaa.EInstr
open Go Go.RowKit Go.Proofs.Ytbekfmeaeaghpaa.F Go.Proofs.YtbekfmeaeaghpaaW.PrintWords
open Go.Proofs.Ytbekfmeaeaghpaa.ESame (size44)
set_option linter.unusedVariables false
set_option linter.unusedSimpArgs false
/-- Each instruction with its depth, itself ahead of its blocks. -/
def pre (d : Nat) : List S44 → List (Nat × S44)
  | [] => []
  | x :: xs => (d, x) :: (pre (d + 1) x.f6 ++ pre (d + 1) x.f7 ++ pre d xs)
termination_by is => SizeOf.sizeOf is
decreasing_by
  all_goals
    have := size44 x
    simp only [List.cons.sizeOf_spec]
    omega
theorem pre_nil (d : Nat) : pre d [] = [] := by rw [pre]
theorem pre_cons (d : Nat) (x : S44) (xs : List S44) : pre d (x :: xs) = (d, x) :: (pre (d + 1) x.f6 ++ pre (d + 1) x.f7 ++ pre d xs) := by rw [pre]
theorem pre_append (d : Nat) (a b : List S44) : pre d (a ++ b) = pre d a ++ pre d b := by
  induction a with
  | nil => simp [pre_nil]
  | cons x a ih => simp [pre_cons, ih]
theorem pre_one (d : Nat) (x : S44) : pre d [x] = (d, x) :: (pre (d + 1) x.f6 ++ pre (d + 1) x.f7) := by simp [pre_cons, pre_nil]
/-- One step of May: the error of the n-th instruction met (n from 1 on). -/
def stepE (n : Nat) (e : Nat × S44) : Int := if ofF e.2.f0 = 2 ∧ 32 ≤ e.1 then 1402 else if 8192 < n ∨ mayB e.2 = false then 1400 else 0
/-- The same, of the reference. -/
def stepR (n : Nat) (e : Nat × S44) : Int := if 8192 < n then 1400 else if ofF e.2.f0 = 2 ∧ 32 ≤ e.1 then 1402 else if mayB e.2 = false then 1400 else 0
/-- The first error, n instructions having been met. -/
def scanE (f : Nat → Nat × S44 → Int) : Nat → List (Nat × S44) → Int
  | _, [] => 0
  | n, e :: r => if f (n + 1) e = 0 then scanE f (n + 1) r else f (n + 1) e
theorem scanE_cons (f : Nat → Nat × S44 → Int) (n : Nat) (e : Nat × S44) (r : List (Nat × S44)) : scanE f n (e :: r) = if f (n + 1) e = 0 then scanE f (n + 1) r else f (n + 1) e := rfl
theorem scanE_append (f : Nat → Nat × S44 → Int) (n : Nat) (a b : List (Nat × S44)) : scanE f n (a ++ b) = if scanE f n a = 0 then scanE f (n + a.length) b else scanE f n a := by
  induction a generalizing n with
  | nil => simp [scanE]
  | cons e a ih =>
    have h0 := scanE_cons f n e a
    rw [List.cons_append, scanE_cons]
    by_cases h : f (n + 1) e = 0
    · rw [if_pos h] at h0 ⊢
      rw [ih, h0, List.length_cons, show n + 1 + a.length = n + (a.length + 1) by omega]
    · rw [if_neg h] at h0 ⊢
      rw [h0, if_neg h]
theorem scanE_snoc (f : Nat → Nat × S44 → Int) (n : Nat) (a : List (Nat × S44)) (e : Nat × S44) (h : scanE f n a = 0) : scanE f n (a ++ [e]) = f (n + a.length + 1) e := by
  rw [scanE_append, if_pos h]
  simp only [scanE]
  split
  · rename_i h2; exact h2.symm
  · rfl
/-- What May answers. -/
def mayE (is : List S44) : Int := scanE stepE 0 (pre 0 is)
/-- What the reference's Checks answers. -/
def chkE (is : List S44) : Int := scanE stepR 0 (pre 0 is)
theorem step_zero (n : Nat) (e : Nat × S44) : stepE n e = 0 ↔ stepR n e = 0 := by
  unfold stepE stepR
  grind
theorem scan_zero (n : Nat) (l : List (Nat × S44)) : scanE stepE n l = 0 ↔ scanE stepR n l = 0 := by
  induction l generalizing n with
  | nil => simp [scanE]
  | cons e l ih =>
    simp only [scanE]
    have h := step_zero (n + 1) e
    by_cases h1 : stepE (n + 1) e = 0
    · rw [if_pos h1, if_pos (h.1 h1)]
      exact ih (n + 1)
    · rw [if_neg h1, if_neg (fun h2 => h1 (h.2 h2))]
      exact ⟨fun h2 => absurd h2 h1, fun h2 => absurd (h.2 h2) h1⟩
theorem may_chk (is : List S44) : mayE is = 0 ↔ chkE is = 0 := scan_zero 0 _
theorem scan_len {f : Nat → Nat × S44 → Int} (hf : ∀ n e, 8192 < n → f n e ≠ 0) : ∀ (l : List (Nat × S44)) (n : Nat), scanE f n l = 0 → n ≤ 8192 → n + l.length ≤ 8192
  | [], n, _, hn => by simpa using hn
  | e :: l, n, h, hn => by
    simp only [scanE] at h
    by_cases h1 : f (n + 1) e = 0
    · rw [if_pos h1] at h
      have h2 : n + 1 ≤ 8192 := by
        by_cases h3 : n + 1 ≤ 8192
        · exact h3
        · exact absurd h1 (hf _ e (by omega))
      have := scan_len hf l (n + 1) h h2
      simp only [List.length_cons]
      omega
    · rw [if_neg h1] at h
      exact absurd h h1
theorem stepE_big (n : Nat) (e : Nat × S44) (h : 8192 < n) : stepE n e ≠ 0 := by
  unfold stepE
  rw [if_pos (Or.inl h)]
  split <;> decide
theorem stepR_big (n : Nat) (e : Nat × S44) (h : 8192 < n) : stepR n e ≠ 0 := by
  unfold stepR
  rw [if_pos h]
  decide
end Go.Proofs.Ytbekfmeaeaghpaa.EInstr
namespace Go.Proofs.YtbekfmeaeaghpaaW.Hand
open Go Go.RowKit
set_option linter.unusedVariables false
/-- What is said abides every turn of a block at or beyond B. -/
def OwnC {β : Type} (B : Nat) (I : β → World → Prop) : Prop := ∀ s W W' row, I s W → W.grownBy W' row → (∀ r, row = some r → B ≤ r) → I s W'
/-- The iterator's contract. -/
def SeqC {α : Type} (F : Fence) (n : Nat) (P : Program) (g : Nat) (lb : Array Value) (encs : α → Array Value) (Kp : World → World → Prop) (S Sp : List α → Prop) (N : Nat) (w : World) : Prop :=
  ∀ (l : Nat) (J Jx : List α → World → Prop) (W : World), Below w.heap.size w W → OwnC W.heap.size J → OwnC W.heap.size Jx →
    (∀ pre x W1, J pre W1 → pre.length < N → YieldAt F (n - 1) P l (encs x) W1 fun e W' => (e = .returned (.bool true) ∧ J (pre ++ [x]) W' ∧ Kp W1 W') ∨ (e = .returned (.bool false) ∧ Jx (pre ++ [x]) W')) →
    J [] W → CallsIn F n P g (#[.func (.yield l) #[] #[]] ++ lb) W fun e W' => (∃ v, e = .returned v) ∧ ((∃ xs, S xs ∧ J xs W') ∨ ∃ pre, Sp pre ∧ Jx pre W')
section
variable {F : Fence} {n : Nat} {P : Program}
theorem OwnC.and {β : Type} {B : Nat} {I I' : β → World → Prop} (h : OwnC B I) (h' : OwnC B I') : OwnC B (fun s W => I s W ∧ I' s W) := fun s W W' row hs hg hr => ⟨h s W W' row hs.1 hg hr, h' s W W' row hs.2 hg hr⟩
theorem OwnC.mono {β : Type} {B B' : Nat} {I : β → World → Prop} (h : OwnC B I) (hB : B ≤ B') : OwnC B' I := fun s W W' row hs hg hr => h s W W' row hs hg (fun r e => Nat.le_trans hB (hr r e))
theorem OwnC.block {β : Type} {B k : Nat} {o : Obj} (hk : k < B) (I : β → World → Prop) : OwnC B (fun (_ : β) W => W.heap[k]? = some o) := fun s W W' row hs hg hr =>
  (hg.block k (Array.getElem?_eq_some_iff.1 hs).1 (fun e => by have := hr k e.symm; omega)).trans hs
theorem OwnC.below {β : Type} {n0 B : Nat} {w0 : World} (hn : n0 ≤ w0.heap.size) (hB : n0 ≤ B) : OwnC B (fun (_ : β) W => Below n0 w0 W) := fun s W W' row hs hg hr => hs.grown hg (Nat.le_trans hn hs.size) (fun k e => Nat.le_trans hB (hr k e))
/-- The record of the loop while it runs. -/
abbrev RecAt (w W : World) (rec : LoopState → Option Code → Loop) (st : LoopState) (pe : Option Code) : Prop := W.heap[w.heap.size + 1]? = some (.loop (rec st pe)) ∧ W.heap[w.heap.size]? = some (.deferred (some []))
theorem rec_own {β : Type} {w W1 : World} (rec : LoopState → Option Code → Loop) (st : LoopState) (pe : Option Code) (h : w.heap.size + 1 < W1.heap.size) : OwnC W1.heap.size (fun (_ : β) W => RecAt w W rec st pe) := fun s A B row hs hg hr =>
  ⟨(hg.block _ (Array.getElem?_eq_some_iff.1 hs.1).1 (fun e => by have := hr _ e.symm; omega)).trans hs.1, (hg.block _ (Array.getElem?_eq_some_iff.1 hs.2).1 (fun e => by have := hr _ e.symm; omega)).trans hs.2⟩
/-- The caller's law. -/
theorem range_own {α : Type} {g : Operand} {ps : Array Tmp} {assign body : Code} {Q : Exit → Act → World → Prop} {a : Act} {w : World}
    (hro : F.round = none) (h1 : 1 ≤ n) {gf : Nat} {lb : Array Value} (hg : a.eval g = .func (.func gf) #[] lb) (hFg : F.fn gf) (eg : ∀ args w, (callFunc gf args).run P w = .ok (.enter gf args) w)
    {encs : α → Array Value} {Kp : World → World → Prop} {S Sp : List α → Prop} {N : Nat} {w0 : World} (hseq : SeqC F (n - 1) P gf lb encs Kp S Sp N w0)
    (hKt : ∀ {A B C : World}, Kp A B → Kp B C → Kp A C) (hKb : ∀ (W : World) (l : Nat) (o o' : Obj), w.heap.size ≤ l → W.heap[l]? = some o → o.isCells = false → o.isWalk = false → Kp W (W.putObj l o')) (hb0 : Below w0.heap.size w0 w) (hps : ∀ x, (encs x).size = ps.size)
    (I : List α → World → Prop) (Ix : Code → List α → World → Prop) (hI : OwnC w.heap.size I) (hIx : ∀ c, OwnC w.heap.size (Ix c)) (h0 : I [] w) (a₁ : α → Act)
    (hassign : ∀ (l : Nat) (x : α) (W : World) (K : Act → World → Prop), K (a₁ x) W → assign.wpIn (F.inRound l) (n - 1 - 1) P (Exit.then K (fun _ _ _ => False)) { tmps := (ps.zip (encs x)).foldl (fun t (p, v) => t.setIfInBounds p v) a.tmps, defers := [] } W)
    (hbody : ∀ (l : Nat) (pre : List α) (x : α) (W : World), w.heap.size < l → I pre W → pre.length < N → body.wpIn (F.inRound l) (n - 1 - 1) P (ownPostK Kp I Ix (pre ++ [x]) W) (a₁ x) W)
    (hdone : ∀ (D : Nat) (xs : List α) (W : World), w.heap.size ≤ D → S xs → I xs W → W.heap[D]? = some (.deferred (some [])) → Q .normal { a with defers := { target := .collected D, args := #[] } :: a.defers } W)
    (hstop : ∀ (D : Nat) (c : Code) (pre : List α) (W : World), w.heap.size ≤ D → Sp pre → Ix c pre W → W.heap[D]? = some (.deferred (some [])) → c.wpIn F n P Q { a with defers := { target := .collected D, args := #[] } :: a.defers } W) :
    (Code.rangeFunc g ps assign body).wpIn F n P Q a w := by
  refine wpIn_rangeFunc (fun fn hfn => ?_)
  rw [hro]
  let mk : LoopState → Option Code → Loop := fun st pe => { state := st, pending := pe, fn, tmps := a.tmps, params := ps, assign, body, defers := w.heap.size }
  generalize hr0 : mk = rc
  obtain ⟨W1, hW1⟩ : ∃ W1, (w.alloc (.deferred (some []))).alloc (.loop (rc .ready none)) = W1 := ⟨_, rfl⟩
  have hsz : W1.heap.size = w.heap.size + 2 := by rw [← hW1]; simp
  have hR1 : RecAt w W1 rc .ready none := by
    rw [← hW1]
    have e := World.alloc_heap_new (w.alloc (.deferred (some []))) (.loop (rc .ready none))
    rw [World.size_alloc] at e
    exact ⟨e, (Below.heap_alloc _ _ _ (by simp)).trans (World.alloc_heap_new w _)⟩
  have lift : ∀ {J : List α → World → Prop}, OwnC w.heap.size J → ∀ {s A}, J s A → ∀ {k : Nat} (o : Obj), w.heap.size ≤ k → J s (A.putObj k o) := fun h s A hs k o hk => h s A _ (some k) hs (grownBy_putObj' A k o) (fun r e => by cases e; exact hk)
  have hI1 : I [] W1 := by
    rw [← hW1]
    exact hI _ _ _ none (hI _ _ _ none h0 (World.grownBy_alloc w _ none) (fun r e => by cases e)) (World.grownBy_alloc _ _ none) (fun r e => by cases e)
  have hb1 : Below w0.heap.size w0 W1 := by
    rw [← hW1]
    exact hb0.trans ((((Below.refl _ w).alloc (Nat.le_refl _) _).alloc (by simp) _).mono hb0.size)
  refine ⟨w.heap.size + 1, [{ target := .collected w.heap.size, args := #[] }], W1, { target := .fn (.func gf) lb, args := #[.func (.yield (w.heap.size + 1)) #[] #[]] }, W1, gf, #[.func (.yield (w.heap.size + 1)) #[] #[]] ++ lb, W1, ?_, ?_, ?_, ?_, fun _ => h1, ?_⟩
  · rw [← hW1, ← hr0]
    exact run_enterLoop_outer _ _ _ _ _
  · simp only [resolve, hg]
    simp [go_sem]
  · intro f' hf'
    simp [Target.leads] at hf'
    subst hf'
    exact hFg
  · simp [invoke, go_sem, eg]
  · refine (hseq (w.heap.size + 1) (fun pre W => I pre W ∧ RecAt w W rc .ready none) (fun pre W => ∃ c, Ix c pre W ∧ RecAt w W rc .done (some c)) W1 hb1 ((hI.mono (by omega)).and (rec_own rc .ready none (by omega)))
      (fun s A B row hs hg' hr => by
        obtain ⟨c, hc, hl⟩ := hs
        exact ⟨c, hIx c s A B row hc hg' (fun r e => by have := hr r e; omega), rec_own (β := List α) rc .done (some c) (by omega) s A B row hl hg' hr⟩) ?_ ⟨hI1, hR1⟩).mono ?_
    · rintro pre x W ⟨hi, hl, hk⟩ hlen
      have hlt : w.heap.size + 1 < W.heap.size := (Array.getElem?_eq_some_iff.1 hl).1
      have hy := run_yield (P := P) (args := encs x) hl (by rw [← hr0]; exact hps x)
      rw [← hr0] at hy
      refine ⟨fn, _, assign, body, hy, roundIn_of_wpIn hfn (hassign _ x W _ ⟨_, run_beginRound hl (by rw [← hr0]), ?_⟩)⟩
      generalize hb : ({ rc .ready none with state := .busy } : Loop) = busy
      have hl2 : (W.putObj (w.heap.size + 1) (.loop busy)).heap[w.heap.size + 1]? = some (.loop busy) := World.putObj_heap_same hlt
      have hk2 : (W.putObj (w.heap.size + 1) (.loop busy)).heap[w.heap.size]? = some (.deferred (some [])) := (World.putObj_heap_other (by omega)).trans hk
      refine wpIn_mono (hbody _ pre x _ (by omega) (lift hI hi _ (by omega)) hlen) ?_
      have fin : ∀ (jump : Option Code) (W3 : World), KeepsOthers (W.putObj (w.heap.size + 1) (.loop busy)) W3 →
          (Instr.endRound (w.heap.size + 1) jump).run P W3 = .ok (.bool jump.isNone) (W3.putObj (w.heap.size + 1) (.loop (rc (if jump.isNone then .ready else .done) jump))) ∧ W3.heap[w.heap.size + 1]? = some (.loop busy) ∧
          RecAt w (W3.putObj (w.heap.size + 1) (.loop (rc (if jump.isNone then .ready else .done) jump))) rc (if jump.isNone then .ready else .done) jump := fun jump W3 hk3 => by
        have hl3 := hk3.same _ _ hl2 rfl
        have hr := run_endRound (P := P) jump hl3
        rw [← hb, ← hr0] at hr
        rw [← hr0]
        exact ⟨hr, hl3, World.putObj_heap_same (Array.getElem?_eq_some_iff.1 hl3).1, (World.putObj_heap_other (by omega)).trans (hk3.same _ _ hk2 rfl)⟩
      have leave : ∀ (c : Code) (W3 : World), KeepsOthers (W.putObj (w.heap.size + 1) (.loop busy)) W3 → Ix c (pre ++ [x]) W3 → ∃ c', Ix c' (pre ++ [x]) (W3.putObj (w.heap.size + 1) (.loop (rc .done (some c)))) ∧ RecAt w (W3.putObj (w.heap.size + 1) (.loop (rc .done (some c)))) rc .done (some c') :=
        fun c W3 hk3 hi3 => ⟨c, lift (hIx c) hi3 _ (by omega), (fin (some c) W3 hk3).2.2⟩
      rintro e a3 W3 hp
      cases e with
      | normal =>
        obtain ⟨hk3, hkp3, hi3⟩ := hp
        obtain ⟨hr, hl3, hl4⟩ := fin none W3 hk3
        exact ⟨_, _, hr, .inl ⟨rfl, ⟨lift hI hi3 _ (by omega), hl4⟩, hKt (hKt (hKb _ _ _ _ (by omega) hl rfl rfl) hkp3) (hKb _ _ _ _ (by omega) hl3 rfl rfl)⟩⟩
      | ret => exact ⟨_, _, (fin (some .ret) W3 hp.1).1, .inr ⟨rfl, leave _ W3 hp.1 hp.2⟩⟩
      | exit id => exact ⟨_, _, (fin (some (.exit id)) W3 hp.1).1, .inr ⟨rfl, leave _ W3 hp.1 hp.2⟩⟩
      | goto t => exact ⟨_, _, (fin (some (.goto t)) W3 hp.1).1, .inr ⟨rfl, leave _ W3 hp.1 hp.2⟩⟩
      | panic ch => exact hp.elim
      | outgrown => exact hp.elim
    · rintro e W2 ⟨⟨v, rfl⟩, (⟨xs, hS, hi, hl, hk⟩ | ⟨pre, hSp, c, hi, hl, hk⟩)⟩
      · have hr := run_endLoop (P := P) hl (by rw [← hr0]; simp [mk])
        rw [← hr0] at hr
        exact ⟨none, _, hr, hdone _ xs _ (Nat.le_refl _) hS (lift hI hi _ (by omega)) ((World.putObj_heap_other (by omega)).trans hk)⟩
      · have hr := run_endLoop (P := P) hl (by rw [← hr0]; simp [mk])
        rw [← hr0] at hr
        exact ⟨some c, _, hr, hstop _ c pre _ (Nat.le_refl _) hSp (lift (hIx c) hi _ (by omega)) ((World.putObj_heap_other (by omega)).trans hk)⟩
end
end Go.Proofs.YtbekfmeaeaghpaaW.Hand
set_option linter.unusedVariables false
namespace Go.Proofs.YtbekfmeaeaghpaaW.Hand
open Go Go.RowKit Go.Proofs.YtbekfmeaeaghpaaW.PrintWords Go.Proofs.YtbekfmeaeaghpaaW.PrintLast Go.Proofs.YtbekfmeaeaghpaaW.PrintMore
section
variable {P : Program} {ops : Array Oper} {Q : Exit → Act → World → Prop} {n : Nat}
def yreadyB (ops : Array Oper) (l l' : Array Bool) (i : Nat) : Bool := Region.ready .any ops l == [i] && (l.setIfInBounds i true == l')
def yanyB (ops : Array Oper) (l l' : Array Bool) (i : Nat) : Bool := Region.noSelect ops && Region.free .any ops l i && (Region.ready .any ops l).contains i && (l.setIfInBounds i true == l')
theorem y_start {id k : Nat} {a : Act} {w : World} (l : Array Bool) (hm : P.follows .mixedOrders = true) (hk : ops.size = k) (hl : Array.replicate k false = l) (h : wpAnyIn Fence.wide n P .any ops Q k l a w.drew) : (Code.region id ops true).wpIn Fence.wide n P Q a w := by
  subst hk
  subst hl
  exact wpIn_region_any hm h
theorem y_pure {i : Nat} {N : Option Tmp} {oi : Oper} {v : Value} {fuel : Nat} {l : Array Bool} {a : Act} {w : World} (l' : Array Bool) (hi : ops[i]? = some oi) (hN : oi.dst = N) (hc : yanyB ops l l' i = true)
    (hQ : ∀ c a w, Q (.panic c) (a.put oi.dst v) w → Q (.panic c) a w) (hy : Yields P ops oi v a) (hab : ∀ w, oi.about P w a.eval = none) {a' : Act} (ha : a.put N v = a')
    (h : wpAnyIn Fence.wide n P .any ops Q fuel l' a' w) : wpAnyIn Fence.wide n P .any ops Q (fuel + 1) l a w := by
  subst ha
  subst hN
  simp only [yanyB, Bool.and_eq_true, beq_iff_eq] at hc
  obtain ⟨⟨⟨h1, h2⟩, h3⟩, h6⟩ := hc
  subst h6
  exact wpAnyIn_take rfl hi h1 h2 h3 hQ ⟨hy, hab⟩ h
theorem y_load {i : Nat} {N : Option Tmp} {oi : Oper} {v : Value} {fuel : Nat} {l : Array Bool} {a : Act} {w : World} (l' : Array Bool) (hi : ops[i]? = some oi) (hN : oi.dst = N) (hc : yreadyB ops l l' i = true) (hw : Region.wanted oi (yielded ops a.tmps) = true)
    (hrun : (execOp a.eval oi).run P w = .ok (.value v) w) {a' : Act} (ha : a.put N v = a') (h : wpAnyIn Fence.wide n P .any ops Q fuel l' a' w) : wpAnyIn Fence.wide n P .any ops Q (fuel + 1) l a w := by
  subst ha
  subst hN
  simp only [yreadyB, Bool.and_eq_true, beq_iff_eq] at hc
  obtain ⟨h1, h2⟩ := hc
  subst h2
  refine wpAnyIn_ready h1 (by simp) (AllReadyIn.cons hi (fun K hK => ?_) AllReadyIn.nil)
  rw [if_pos hw]
  refine ⟨fun _ _ => trivial, ?_⟩
  show Oper.uponIn _ _ _ _ _ _ _ ((oi.semAt none a.eval).run P w)
  rw [Oper.semAt_none, hrun]
  exact hK _ _ h
/-- The call of yield. -/
theorem y_yield {i lp : Nat} {N : Option Tmp} {oi : Oper} {args : Array Value} {fuel m : Nat} {l : Array Bool} {a : Act} {w : World} {R : Ending → World → Prop} (l' : Array Bool) (hi : ops[i]? = some oi) (hN : oi.dst = N) (hc : yreadyB ops l l' i = true) (hw : Region.wanted oi (yielded ops a.tmps) = true)
    (hy : YieldAt Fence.wide m P lp args w R) (hrun : ∀ fn tmps assign body, (Instr.yield lp args).run P w = .ok (.round lp fn tmps assign body) w → (execOp a.eval oi).run P w = .ok (.round lp fn tmps assign body) w)
    (h : ∀ e w', R e w' → ∃ v, e = .returned v ∧ ∀ a', a.put N v = a' → wpAnyIn Fence.wide n P .any ops Q fuel l' a' w') : wpAnyIn Fence.wide n P .any ops Q (fuel + 1) l a w := by
  subst hN
  simp only [yreadyB, Bool.and_eq_true, beq_iff_eq] at hc
  obtain ⟨h1, h2⟩ := hc
  subst h2
  obtain ⟨fn, tmps, assign, body, hy1, hR⟩ := hy
  refine wpAnyIn_ready h1 (by simp) (AllReadyIn.cons hi (fun K hK => ?_) AllReadyIn.nil)
  rw [if_pos hw]
  refine ⟨fun _ _ => trivial, ?_⟩
  show Oper.uponIn _ _ _ _ _ _ _ ((oi.semAt none a.eval).run P w)
  rw [Oper.semAt_none, hrun _ _ _ _ hy1]
  refine ⟨(fun hh => by cases hh), hR.1, fun c cs _ => ?_⟩
  obtain ⟨e, w', hre, hs⟩ := hR.2 c cs (by intro d hd; cases hd)
  obtain ⟨v, rfl, h'⟩ := h e w' hre
  exact ⟨.returned v, w', hK _ _ (h' _ rfl), hs⟩
theorem y_norm {fuel : Nat} {l : Array Bool} {a a' : Act} {w : World} (ha : a = a') (h : wpAnyIn Fence.wide n P .any ops Q fuel l a' w) : wpAnyIn Fence.wide n P .any ops Q fuel l a w := by
  subst ha
  exact h
theorem y_done {fuel : Nat} {l : Array Bool} {a : Act} {w : World} (hr : Region.ready .any ops l = []) (h : Q .normal a w) : wpAnyIn Fence.wide n P .any ops Q fuel l a w := wpAnyIn_done hr h fuel
end
end Go.Proofs.YtbekfmeaeaghpaaW.Hand
namespace Go.Proofs.Ytbekfmeaeaghpaa.EInstr
open Go Go.RowKit Go.Proofs.Ytbekfmeaeaghpaa.F Go.Proofs.YtbekfmeaeaghpaaW.Hand Go.Proofs.YtbekfmeaeaghpaaW.PrintWords Go.Proofs.YtbekfmeaeaghpaaW.PrintLast Go.Proofs.YtbekfmeaeaghpaaW.PrintMore
open Go.Proofs.Ytbekfmeaeaghpaa.ESame (rd44_mem size44)
attribute [local go_sem] Oper.semAt_some
set_option linter.unusedVariables false
set_option linter.unusedSimpArgs false
/-- An instruction where it stands, with its depth. -/
structure El where
  d : Nat
  ad : Addr
  x : S44
def El.At (w0 : World) (e : El) : Prop := e.d ≤ 8193 ∧ e.ad.block < w0.heap.size ∧ ∃ A5 c5 A6 c6 A7 c7, w0.cell? e.ad = some (.int .i64 e.x.f0) ∧ w0.cell? ⟨e.ad.block, e.ad.off + 1, none⟩ = some (.int .i64 e.x.f1) ∧ w0.cell? ⟨e.ad.block, e.ad.off + 2, none⟩ = some (.int .i64 e.x.f2) ∧ w0.cell? ⟨e.ad.block, e.ad.off + 3, none⟩ = some (.int .i64 e.x.f3) ∧ w0.cell? ⟨e.ad.block, e.ad.off + 4, none⟩ = some (.int .i64 e.x.f4) ∧
  w0.cell? ⟨e.ad.block, e.ad.off + 5, none⟩ = some (.slice A5 e.x.f5.length c5) ∧ w0.cell? ⟨e.ad.block, e.ad.off + 6, none⟩ = some (.slice A6 e.x.f6.length c6) ∧ w0.cell? ⟨e.ad.block, e.ad.off + 7, none⟩ = some (.slice A7 e.x.f7.length c7) ∧
  e.x.f5.length ≤ c5 ∧ (Kd.int .i64).C w0 A5 e.x.f5.length e.x.f5 ∧ e.x.f6.length ≤ c6 ∧ k44.C w0 A6 e.x.f6.length e.x.f6 ∧ e.x.f7.length ≤ c7 ∧ k44.C w0 A7 e.x.f7.length e.x.f7
abbrev ElS (w0 : World) := { e : El // e.At w0 }
def key {w0 : World} (e : ElS w0) : Nat × S44 := (e.1.d, e.1.x)
def encE {w0 : World} (e : ElS w0) : Array Value := #[.int .i64 (e.1.d : Int), .pointer (some e.1.ad)]
/-- What a round keeps: all that lay below B, and all cells but its own boxes. -/
def KpC (B : Nat) (Bad : Nat → Prop) (W W' : World) : Prop := Below B W W' ∧ ∀ k o, W.heap[k]? = some o → o.isCells = true → ¬ Bad k → W'.heap[k]? = some o
section
variable {B : Nat} {Bad : Nat → Prop} {X Y Z w : World}
theorem kpC_t (h : KpC B Bad X Y) (k : KpC B Bad Y Z) : KpC B Bad X Z := ⟨h.1.trans k.1, fun i o h1 h2 h3 => k.2 i o (h.2 i o h1 h2 h3) h2 h3⟩
theorem kpC_b (h1 : B ≤ w.heap.size) (W : World) (l : Nat) (o o' : Obj) (hl : w.heap.size ≤ l) (h : W.heap[l]? = some o) (ho : o.isCells = false) (hw : o.isWalk = false) : KpC B Bad W (W.putObj l o') :=
  ⟨belowK_b h1 W l o o' hl h ho hw, fun k p hk hc _ => by
    have hne : k ≠ l := fun e => by
      subst e
      rw [hk] at h
      obtain rfl := Option.some.inj h
      rw [hc] at ho
      cases ho
    rw [World.putObj_heap_other hne]
    exact hk⟩
theorem kpC_refl (B : Nat) (Bad : Nat → Prop) (W : World) : KpC B Bad W W := ⟨Below.refl _ _, fun _ _ h _ _ => h⟩
theorem kpC_drew (h : KpC B Bad X Y) : KpC B Bad X Y.drew := ⟨h.1.drew, h.2⟩
end
theorem prefix_mid {α : Type} {a b p q : List α} (h : a = p ++ q) (hb : b <+: q) : p ++ b <+: a := by
  subst h
  obtain ⟨t, rfl⟩ := hb
  exact ⟨t, by simp⟩
theorem pre_split (d : Nat) (is : List S44) (i : Nat) (hi : i < is.length) : ∃ r, pre d is = pre d (is.take i) ++ ((d, rd_T44 is (i : Int)) :: (pre (d + 1) (rd_T44 is (i : Int)).f6 ++ (pre (d + 1) (rd_T44 is (i : Int)).f7 ++ r))) ∧ pre d (is.take (i + 1)) = pre d (is.take i) ++ ((d, rd_T44 is (i : Int)) :: (pre (d + 1) (rd_T44 is (i : Int)).f6 ++ pre (d + 1) (rd_T44 is (i : Int)).f7)) := by
  have e : rd_T44 is (i : Int) = is[i] := by
    unfold rd_T44
    rw [Int.toNat_natCast, List.getD_eq_getElem?_getD, List.getElem?_eq_getElem hi]
    rfl
  rw [e]
  refine ⟨pre d (is.drop (i + 1)), ?_, ?_⟩
  · conv => lhs; rw [← List.take_append_drop i is]
    rw [pre_append, List.drop_eq_getElem_cons hi, pre_cons]
    simp
  · rw [List.take_add_one, List.getElem?_eq_getElem hi, pre_append]
    simp [pre_one]
def WkCell (W : World) (Bw l : Nat) (left : Nat) : Prop := W.heap[Bw]? = some (.cells #[.int .i64 (left : Int), .func (.yield l) #[] #[]] 99 (0, 0))
/-- What a walk comes to: all have come; a round has said 'no more'; none is left. -/
def WkPost (l B Bw : Nat) (w0 : World) (J Jx : List (ElS w0) → World → Prop) (ys : List (ElS w0)) (left : Nat) (all : List (Nat × S44)) (e : Ending) (W' : World) : Prop :=
  (e = .returned (.bool true) ∧ ∃ q : List (ElS w0), q.map key = all ∧ q.length ≤ left ∧ J (ys ++ q) W' ∧ Below B w0 W' ∧ WkCell W' Bw l (left - q.length)) ∨
  (e = .returned (.bool false) ∧ ∃ q : List (ElS w0), q.map key <+: all ∧ Jx (ys ++ q) W') ∨
  (e = .returned (.bool false) ∧ ∃ q : List (ElS w0), q.map key <+: all ∧ q.length = left ∧ left < all.length ∧ J (ys ++ q) W')
def RelWk (l B Bw : Nat) (w0 : World) (J : List (ElS w0) → World → Prop) (ys : List (ElS w0)) (left d : Nat) (is : List S44) (v10 : Value) (wr : World) : Prop :=
  ∃ (i : Nat) (q : List (ElS w0)), i ≤ is.length ∧ v10 = .int .i64 i ∧ q.map key = pre d (is.take i) ∧ q.length ≤ left ∧ J (ys ++ q) wr ∧ Below B w0 wr ∧ WkCell wr Bw l (left - q.length)
theorem fin_false {l B Bw : Nat} {w0 : World} {J Jx : List (ElS w0) → World → Prop} {ys q : List (ElS w0)} {left left' : Nat} {all sub : List (Nat × S44)} {e : Ending} {W' : World} (h : WkPost l B Bw w0 J Jx (ys ++ q) left' sub e W') (he : e = .returned (.bool false)) (hl : q.length + left' = left) (ha : ∃ r, all = q.map key ++ (sub ++ r)) :
    WkPost l B Bw w0 J Jx ys left all e W' := by
  obtain ⟨r, rfl⟩ := ha
  subst he
  rcases h with ⟨h, _⟩ | ⟨_, q1, hp, hx⟩ | ⟨_, q1, hp, h1, h2, hj⟩
  · simp at h
  · refine .inr (.inl ⟨rfl, q ++ q1, ?_, by rw [← List.append_assoc]; exact hx⟩)
    obtain ⟨t, ht⟩ := hp
    exact ⟨t ++ r, by rw [List.map_append, List.append_assoc, ← ht]; simp⟩
  · refine .inr (.inr ⟨rfl, q ++ q1, ?_, by rw [List.length_append]; omega, by simp only [List.length_append, List.length_map]; omega, by rw [← List.append_assoc]; exact hj⟩)
    obtain ⟨t, ht⟩ := hp
    exact ⟨t ++ r, by rw [List.map_append, List.append_assoc, ← ht]; simp⟩
theorem grown_set (W : World) (g : Nat) (x : Value) : W.grownBy (W.setCell ⟨g, 0, none⟩ x) (some g) := ⟨rfl, rfl, rfl, by simp [World.setCell], fun k _ hk => Below.heap_setCell W ⟨g, 0, none⟩ x k (fun e => hk (by rw [e]))⟩
theorem wrap_up {i n : Nat} (h : i < n) (hn : n ≤ 9223372036854775807) : wrap64 ((i : Int) + 1) = ((i + 1 : Nat) : Int) := by unfold wrap64; omega
theorem step_down {i n : Nat} (h : i < n) : n - (i + 1) < n - i := by omega
theorem wk_store {W : World} {Bw l left : Nat} (h : WkCell W Bw l left) (hp : 0 < left) : WkCell (W.setCell ⟨Bw, 0, none⟩ (.int .i64 ((left - 1 : Nat) : Int))) Bw l (left - 1) := by
  unfold WkCell at h ⊢
  have := blk_set h 0 (.int .i64 ((left - 1 : Nat) : Int))
  simpa using this
set_option maxRecDepth 100000 in
set_option maxHeartbeats 8000000 in
theorem walker_in (l B Bw : Nat) (Bad : Nat → Prop) (w0 : World) (hB : B = w0.heap.size) (hBw : B ≤ Bw) (hbad : ¬ Bad Bw) (J Jx : List (ElS w0) → World → Prop) (hJ : OwnC Bw J)
    (hY : ∀ m ys x W, J ys W → ys.length < 8193 → YieldAt Fence.wide m Try.prog l (encE x) W fun e W' => (e = .returned (.bool true) ∧ J (ys ++ [x]) W' ∧ KpC B Bad W W') ∨ (e = .returned (.bool false) ∧ Jx (ys ++ [x]) W')) :
    ∀ (sz : Nat) (is : List S44), SizeOf.sizeOf is ≤ sz → ∀ (n d : Nat) (A : Option Addr) (c left : Nat) (ys : List (ElS w0)) (W : World), k44.C w0 A is.length is → is.length ≤ c → Below B w0 W → J ys W → d ≤ ys.length → ys.length + left = 8193 → WkCell W Bw l left →
      CallsIn Fence.wide n Try.prog 49 #[.pointer (some ⟨Bw, 0, none⟩), .slice A is.length c, .int .i64 (d : Int)] W (WkPost l B Bw w0 J Jx ys left (pre d is)) := by
  intro sz
  induction sz with
  | zero =>
    intro is hn
    cases is <;> simp at hn
  | succ sz ih =>
  intro is hsz n d A c left ys W hA hc hbl hj hd hleft hcell
  have HSZ := Aside0.mk hsz
  have HA := Aside0.mk hA
  have HMX := Aside0.mk (Kd.C_max hA)
  have HJ := Aside0.mk hJ
  have HY := Aside0.mk hY
  have HD := Aside0.mk hd
  have HL := Aside0.mk hleft
  clear hsz hA hJ hY hd hleft
  refine callsIn_of_wp Try.func49 rfl trivial ?_ rfl
  simp only [Try.ntmps49, List.size_toArray, List.length_cons, List.length_nil, Nat.reduceAdd, Nat.reduceSub, Array.replicate_succ, Array.replicate_zero, List.push_toArray, List.append_toArray, List.nil_append, List.cons_append]
  gi_wp2
  gi_loopw [10] (fun v10 wr => RelWk l B Bw w0 J ys left d is v10 wr) (fun i _ => is.length - (intOf i).toNat)
  case atStart => exact ⟨0, [], Nat.zero_le _, rfl, by simp [pre_nil], Nat.zero_le _, by simpa using hj, hbl, by simpa using hcell⟩
  case round =>
    clear hj hbl hcell
    obtain ⟨i, q, hi, rfl, hq, hql, hjq, hbq, hcq⟩ := hrel
    have HQ := Aside0.mk hq
    have HI := Aside0.mk hi
    have y0 : wr.cell? ⟨Bw, 0, none⟩ = some (.int .i64 ((left - q.length : Nat) : Int)) := blk_cell hcq 0
    have y1 : wr.cell? ⟨Bw, 1, none⟩ = some (.func (.yield l) #[] #[]) := blk_cell hcq 1
    have HCQ := Aside0.mk hcq
    have HJQ := Aside0.mk hjq
    have HBQ := Aside0.mk hbq
    clear hq hi hcq hjq hbq
    by_cases hlt : i < is.length
    · have dl : decide (i < is.length) = true := decide_eq_true hlt
      have dl2 : decide ((i : Int) < (is.length : Int)) = true := decide_eq_true (by omega)
      have hi0 : (0 : Int) ≤ (i : Int) := by omega
      obtain ⟨ad, A5, a5c, A6, a6c, A7, a7c, eA, a0, a1, a2, a3, a4, a5, a6, a7, l5, C5, l6, C6, l7, C7⟩ := at_T44 HA.out (i : Int) (by omega) (by omega)
      subst eA
      obtain ⟨r, eP, eT⟩ := pre_split d is i hlt
      have hszx : SizeOf.sizeOf (rd_T44 is (i : Int)) < SizeOf.sizeOf is := List.sizeOf_lt_of_mem (rd44_mem hlt)
      have hs6 := size44 (rd_T44 is (i : Int))
      have SZ0 : SizeOf.sizeOf (rd_T44 is (i : Int)).f6 ≤ sz ∧ SizeOf.sizeOf (rd_T44 is (i : Int)).f7 ≤ sz := by have := HSZ.out; omega
      clear hszx hs6
      generalize rd_T44 is (i : Int) = x at *
      simp only [Int.toNat_natCast] at a0 a1 a2 a3 a4 a5 a6 a7
      have SZ := Aside0.mk SZ0
      have EP := Aside0.mk eP
      have ET := Aside0.mk eT
      clear SZ0 eP eT
      by_cases hz : left - q.length = 0
      · have hz0 : (((left - q.length : Nat) : Int) == 0) = true := by rw [hz]; rfl
        have HZ := Aside0.mk hz
        clear hz
        gi_wp2
        refine y_start (k := 17) #[false, false, false, false, false, false, false, false, false, false, false, false, false, false, false, false, false] (by kernel_rfl) rfl rfl ?_
        refine y_pure (i := 0) (N := some 13) (v := ?_) (a' := ?_) #[true, false, false, false, false, false, false, false, false, false, false, false, false, false, false, false, false] rfl rfl (by kernel_rfl) (fun _ _ _ h => h) (Or.inl ⟨by rfl, ?_⟩) (fun _ => rfl) ?_ ?_
        rotate_left
        · intro w'
          go_simp
          with_reducible rfl
        rotate_left
        · simp only [Act.put, List.setIfInBounds_toArray, List.set_cons_zero, List.set_cons_succ, i64_w, i32_w]
          rfl
        refine y_pure (i := 1) (N := some 14) (v := ?_) (a' := ?_) #[true, true, false, false, false, false, false, false, false, false, false, false, false, false, false, false, false] rfl rfl (by kernel_rfl) (fun _ _ _ h => h) (Or.inl ⟨by rfl, ?_⟩) (fun _ => rfl) ?_ ?_
        rotate_left
        · intro w'
          go_simp
          with_reducible rfl
        rotate_left
        · simp only [Act.put, List.setIfInBounds_toArray, List.set_cons_zero, List.set_cons_succ, i64_w, i32_w]
          rfl
        refine y_pure (i := 2) (N := some 15) (v := ?_) (a' := ?_) #[true, true, true, false, false, false, false, false, false, false, false, false, false, false, false, false, false] rfl rfl (by kernel_rfl) (fun _ _ _ h => h) (Or.inl ⟨by rfl, ?_⟩) (fun _ => rfl) ?_ ?_
        rotate_left
        · intro w'
          go_simp
          with_reducible rfl
        rotate_left
        · simp only [Act.put, List.setIfInBounds_toArray, List.set_cons_zero, List.set_cons_succ, i64_w, i32_w]
          rfl
        refine y_load (i := 3) (N := some 16) (v := ?_) (a' := ?_) #[true, true, true, true, false, false, false, false, false, false, false, false, false, false, false, false, false] rfl rfl (by kernel_rfl) (by rfl) ?_ ?_ ?_
        rotate_left
        · go_simp
          with_reducible rfl
        rotate_left
        · simp only [Act.put, List.setIfInBounds_toArray, List.set_cons_zero, List.set_cons_succ, i64_w, i32_w]
          rfl
        refine y_pure (i := 4) (N := some 17) (v := ?_) (a' := ?_) #[true, true, true, true, true, false, false, false, false, false, false, false, false, false, false, false, false] rfl rfl (by kernel_rfl) (fun _ _ _ h => h) (Or.inl ⟨by rfl, ?_⟩) (fun _ => rfl) ?_ ?_
        rotate_left
        · intro w'
          go_simp
          with_reducible rfl
        rotate_left
        · simp only [Act.put, List.setIfInBounds_toArray, List.set_cons_zero, List.set_cons_succ, i64_w, i32_w]
          rfl
        refine y_pure (i := 5) (N := some 18) (v := ?_) (a' := ?_) #[true, true, true, true, true, true, false, false, false, false, false, false, false, false, false, false, false] rfl rfl (by kernel_rfl) (fun _ _ _ h => h) (Or.inl ⟨by rfl, ?_⟩) (fun _ => rfl) ?_ ?_
        rotate_left
        · intro w'
          go_simp
          with_reducible rfl
        rotate_left
        · simp only [Act.put, List.setIfInBounds_toArray, List.set_cons_zero, List.set_cons_succ, i64_w, i32_w]
          rfl
        refine y_pure (i := 6) (N := some 19) (v := undef) (a' := ?_) #[true, true, true, true, true, true, true, false, false, false, false, false, false, false, false, false, false] rfl rfl (by kernel_rfl) (fun _ _ _ h => h) (Or.inr ⟨by rfl, rfl⟩) (fun _ => rfl) ?_ ?_
        rotate_left
        · simp only [Act.put, List.setIfInBounds_toArray, List.set_cons_zero, List.set_cons_succ, i64_w, i32_w]
          rfl
        refine y_pure (i := 7) (N := some 20) (v := undef) (a' := ?_) #[true, true, true, true, true, true, true, true, false, false, false, false, false, false, false, false, false] rfl rfl (by kernel_rfl) (fun _ _ _ h => h) (Or.inr ⟨by rfl, rfl⟩) (fun _ => rfl) ?_ ?_
        rotate_left
        · simp only [Act.put, List.setIfInBounds_toArray, List.set_cons_zero, List.set_cons_succ, i64_w, i32_w]
          rfl
        refine y_pure (i := 8) (N := some 21) (v := undef) (a' := ?_) #[true, true, true, true, true, true, true, true, true, false, false, false, false, false, false, false, false] rfl rfl (by kernel_rfl) (fun _ _ _ h => h) (Or.inr ⟨by rfl, rfl⟩) (fun _ => rfl) ?_ ?_
        rotate_left
        · simp only [Act.put, List.setIfInBounds_toArray, List.set_cons_zero, List.set_cons_succ, i64_w, i32_w]
          rfl
        refine y_pure (i := 9) (N := some 22) (v := undef) (a' := ?_) #[true, true, true, true, true, true, true, true, true, true, false, false, false, false, false, false, false] rfl rfl (by kernel_rfl) (fun _ _ _ h => h) (Or.inr ⟨by rfl, rfl⟩) (fun _ => rfl) ?_ ?_
        rotate_left
        · simp only [Act.put, List.setIfInBounds_toArray, List.set_cons_zero, List.set_cons_succ, i64_w, i32_w]
          rfl
        refine y_pure (i := 10) (N := some 23) (v := undef) (a' := ?_) #[true, true, true, true, true, true, true, true, true, true, true, false, false, false, false, false, false] rfl rfl (by kernel_rfl) (fun _ _ _ h => h) (Or.inr ⟨by rfl, rfl⟩) (fun _ => rfl) ?_ ?_
        rotate_left
        · simp only [Act.put, List.setIfInBounds_toArray, List.set_cons_zero, List.set_cons_succ, i64_w, i32_w]
          rfl
        refine y_pure (i := 11) (N := some 24) (v := undef) (a' := ?_) #[true, true, true, true, true, true, true, true, true, true, true, true, false, false, false, false, false] rfl rfl (by kernel_rfl) (fun _ _ _ h => h) (Or.inr ⟨by rfl, rfl⟩) (fun _ => rfl) ?_ ?_
        rotate_left
        · simp only [Act.put, List.setIfInBounds_toArray, List.set_cons_zero, List.set_cons_succ, i64_w, i32_w]
          rfl
        refine y_pure (i := 12) (N := some 25) (v := undef) (a' := ?_) #[true, true, true, true, true, true, true, true, true, true, true, true, true, false, false, false, false] rfl rfl (by kernel_rfl) (fun _ _ _ h => h) (Or.inr ⟨by rfl, rfl⟩) (fun _ => rfl) ?_ ?_
        rotate_left
        · simp only [Act.put, List.setIfInBounds_toArray, List.set_cons_zero, List.set_cons_succ, i64_w, i32_w]
          rfl
        refine y_pure (i := 13) (N := some 26) (v := undef) (a' := ?_) #[true, true, true, true, true, true, true, true, true, true, true, true, true, true, false, false, false] rfl rfl (by kernel_rfl) (fun _ _ _ h => h) (Or.inr ⟨by rfl, rfl⟩) (fun _ => rfl) ?_ ?_
        rotate_left
        · simp only [Act.put, List.setIfInBounds_toArray, List.set_cons_zero, List.set_cons_succ, i64_w, i32_w]
          rfl
        refine y_pure (i := 14) (N := some 27) (v := undef) (a' := ?_) #[true, true, true, true, true, true, true, true, true, true, true, true, true, true, true, false, false] rfl rfl (by kernel_rfl) (fun _ _ _ h => h) (Or.inr ⟨by rfl, rfl⟩) (fun _ => rfl) ?_ ?_
        rotate_left
        · simp only [Act.put, List.setIfInBounds_toArray, List.set_cons_zero, List.set_cons_succ, i64_w, i32_w]
          rfl
        refine y_pure (i := 15) (N := some 28) (v := undef) (a' := ?_) #[true, true, true, true, true, true, true, true, true, true, true, true, true, true, true, true, false] rfl rfl (by kernel_rfl) (fun _ _ _ h => h) (Or.inr ⟨by rfl, rfl⟩) (fun _ => rfl) ?_ ?_
        rotate_left
        · simp only [Act.put, List.setIfInBounds_toArray, List.set_cons_zero, List.set_cons_succ, i64_w, i32_w]
          rfl
        refine y_pure (i := 16) (N := some 29) (v := ?_) (a' := ?_) #[true, true, true, true, true, true, true, true, true, true, true, true, true, true, true, true, true] rfl rfl (by kernel_rfl) (fun _ _ _ h => h) (Or.inl ⟨by rfl, ?_⟩) (fun _ => rfl) ?_ ?_
        rotate_left
        · intro w'
          go_simp
          with_reducible rfl
        rotate_left
        · simp only [Act.put, List.setIfInBounds_toArray, List.set_cons_zero, List.set_cons_succ, i64_w, i32_w]
          rfl
        refine y_done (by kernel_rfl) ?_
        gi_wp2
        go_ret
        exact .inr (.inr ⟨rfl, q, by rw [HQ.out, EP.out]; exact ⟨_, rfl⟩, by have := HZ.out; omega, by rw [EP.out, ← HQ.out, List.length_append, List.length_map]; simp only [List.length_cons]; have := HZ.out; omega, HJ.out _ _ _ none HJQ.out ⟨rfl, rfl, rfl, Nat.le_refl _, fun _ _ _ => rfl⟩ (fun r e => by cases e)⟩)
      · have hz0 : (((left - q.length : Nat) : Int) == 0) = false := by rw [beq_eq_false_iff_ne]; omega
        have HZ := Aside0.mk hz
        clear hz
        have hbd : Below B wr wr.drew := below_drew (Below.refl _ _)
        have hJd : J (ys ++ q) wr.drew := HJ.out _ _ _ none HJQ.out ⟨rfl, rfl, rfl, Nat.le_refl _, fun _ _ _ => rfl⟩ (fun r e => by cases e)
        obtain ⟨el, hel⟩ : ∃ el : ElS w0, el.1 = ⟨d, ad.add (i * 8), x⟩ := ⟨⟨⟨d, ad.add (i * 8), x⟩, by have := HD.out; have := HL.out; show d ≤ 8193; omega, World.block_lt_of_cell? _ _ a0, A5, a5c, A6, a6c, A7, a7c, a0, a1, a2, a3, a4, a5, a6, a7, l5, C5, l6, C6, l7, C7⟩, rfl⟩
        have b6 : wr.cell? ⟨(ad.add (i * 8)).block, (ad.add (i * 8)).off + 6, none⟩ = some (.slice A6 x.f6.length a6c) := pw_cell_below (hB ▸ HBQ.out) a6
        have b7 : wr.cell? ⟨(ad.add (i * 8)).block, (ad.add (i * 8)).off + 7, none⟩ = some (.slice A7 x.f7.length a7c) := pw_cell_below (hB ▸ HBQ.out) a7
        have B6 := Aside0.mk a6
        have B7 := Aside0.mk a7
        have CC6 := Aside0.mk C6
        have CC7 := Aside0.mk C7
        have LL6 := Aside0.mk l6
        have LL7 := Aside0.mk l7
        have HKEY : Aside0 (key el = (d, x)) := ⟨by unfold key; rw [hel]⟩
        have HEN : Aside0 (encE el = #[.int .i64 (d : Int), .pointer (some (ad.add (i * 8)))]) := ⟨by unfold encE; rw [hel]⟩
        have YA0 := HY.out 0 (ys ++ q) el wr.drew hJd (by rw [List.length_append]; have := HL.out; have := HZ.out; omega)
        rw [HEN.out] at YA0
        have YA1 := Aside0.mk YA0
        clear YA0
        have HEL := Aside0.mk hel
        clear hel a0 a1 a2 a3 a4 a5 a6 a7 l5 C5 l6 C6 l7 C7 hJd hbd b6 b7
        gi_wp2
        refine y_start (k := 17) #[false, false, false, false, false, false, false, false, false, false, false, false, false, false, false, false, false] (by kernel_rfl) rfl rfl ?_
        refine y_pure (i := 0) (N := some 13) (v := ?_) (a' := ?_) #[true, false, false, false, false, false, false, false, false, false, false, false, false, false, false, false, false] rfl rfl (by kernel_rfl) (fun _ _ _ h => h) (Or.inl ⟨by rfl, ?_⟩) (fun _ => rfl) ?_ ?_
        rotate_left
        · intro w'
          go_simp
          with_reducible rfl
        rotate_left
        · simp only [Act.put, List.setIfInBounds_toArray, List.set_cons_zero, List.set_cons_succ, i64_w, i32_w]
          rfl
        refine y_pure (i := 1) (N := some 14) (v := ?_) (a' := ?_) #[true, true, false, false, false, false, false, false, false, false, false, false, false, false, false, false, false] rfl rfl (by kernel_rfl) (fun _ _ _ h => h) (Or.inl ⟨by rfl, ?_⟩) (fun _ => rfl) ?_ ?_
        rotate_left
        · intro w'
          go_simp
          with_reducible rfl
        rotate_left
        · simp only [Act.put, List.setIfInBounds_toArray, List.set_cons_zero, List.set_cons_succ, i64_w, i32_w]
          rfl
        refine y_pure (i := 2) (N := some 15) (v := ?_) (a' := ?_) #[true, true, true, false, false, false, false, false, false, false, false, false, false, false, false, false, false] rfl rfl (by kernel_rfl) (fun _ _ _ h => h) (Or.inl ⟨by rfl, ?_⟩) (fun _ => rfl) ?_ ?_
        rotate_left
        · intro w'
          go_simp
          with_reducible rfl
        rotate_left
        · simp only [Act.put, List.setIfInBounds_toArray, List.set_cons_zero, List.set_cons_succ, i64_w, i32_w]
          rfl
        refine y_load (i := 3) (N := some 16) (v := ?_) (a' := ?_) #[true, true, true, true, false, false, false, false, false, false, false, false, false, false, false, false, false] rfl rfl (by kernel_rfl) (by rfl) ?_ ?_ ?_
        rotate_left
        · go_simp
          with_reducible rfl
        rotate_left
        · simp only [Act.put, List.setIfInBounds_toArray, List.set_cons_zero, List.set_cons_succ, i64_w, i32_w]
          rfl
        refine y_pure (i := 4) (N := some 17) (v := ?_) (a' := ?_) #[true, true, true, true, true, false, false, false, false, false, false, false, false, false, false, false, false] rfl rfl (by kernel_rfl) (fun _ _ _ h => h) (Or.inl ⟨by rfl, ?_⟩) (fun _ => rfl) ?_ ?_
        rotate_left
        · intro w'
          go_simp
          with_reducible rfl
        rotate_left
        · simp only [Act.put, List.setIfInBounds_toArray, List.set_cons_zero, List.set_cons_succ, i64_w, i32_w]
          rfl
        refine y_pure (i := 5) (N := some 18) (v := ?_) (a' := ?_) #[true, true, true, true, true, true, false, false, false, false, false, false, false, false, false, false, false] rfl rfl (by kernel_rfl) (fun _ _ _ h => h) (Or.inl ⟨by rfl, ?_⟩) (fun _ => rfl) ?_ ?_
        rotate_left
        · intro w'
          go_simp
          with_reducible rfl
        rotate_left
        · simp only [Act.put, List.setIfInBounds_toArray, List.set_cons_zero, List.set_cons_succ, i64_w, i32_w]
          rfl
        refine y_pure (i := 6) (N := some 19) (v := ?_) (a' := ?_) #[true, true, true, true, true, true, true, false, false, false, false, false, false, false, false, false, false] rfl rfl (by kernel_rfl) (fun _ _ _ h => h) (Or.inl ⟨by rfl, ?_⟩) (fun _ => rfl) ?_ ?_
        rotate_left
        · intro w'
          go_simp
          with_reducible rfl
        rotate_left
        · simp only [Act.put, List.setIfInBounds_toArray, List.set_cons_zero, List.set_cons_succ, i64_w, i32_w]
          rfl
        refine y_pure (i := 7) (N := some 20) (v := ?_) (a' := ?_) #[true, true, true, true, true, true, true, true, false, false, false, false, false, false, false, false, false] rfl rfl (by kernel_rfl) (fun _ _ _ h => h) (Or.inl ⟨by rfl, ?_⟩) (fun _ => rfl) ?_ ?_
        rotate_left
        · intro w'
          go_simp
          with_reducible rfl
        rotate_left
        · simp only [Act.put, List.setIfInBounds_toArray, List.set_cons_zero, List.set_cons_succ, i64_w, i32_w]
          rfl
        refine y_pure (i := 8) (N := some 21) (v := ?_) (a' := ?_) #[true, true, true, true, true, true, true, true, true, false, false, false, false, false, false, false, false] rfl rfl (by kernel_rfl) (fun _ _ _ h => h) (Or.inl ⟨by rfl, ?_⟩) (fun _ => rfl) ?_ ?_
        rotate_left
        · intro w'
          go_simp
          with_reducible rfl
        rotate_left
        · simp only [Act.put, List.setIfInBounds_toArray, List.set_cons_zero, List.set_cons_succ, i64_w, i32_w]
          rfl
        refine y_pure (i := 10) (N := some 23) (v := ?_) (a' := ?_) #[true, true, true, true, true, true, true, true, true, false, true, false, false, false, false, false, false] rfl rfl (by kernel_rfl) (fun _ _ _ h => h) (Or.inl ⟨by rfl, ?_⟩) (fun _ => rfl) ?_ ?_
        rotate_left
        · intro w'
          go_simp
          with_reducible rfl
        rotate_left
        · simp only [Act.put, List.setIfInBounds_toArray, List.set_cons_zero, List.set_cons_succ, i64_w, i32_w]
          rfl
        refine y_pure (i := 11) (N := some 24) (v := ?_) (a' := ?_) #[true, true, true, true, true, true, true, true, true, false, true, true, false, false, false, false, false] rfl rfl (by kernel_rfl) (fun _ _ _ h => h) (Or.inl ⟨by rfl, ?_⟩) (fun _ => rfl) ?_ ?_
        rotate_left
        · intro w'
          go_simp
          with_reducible rfl
        rotate_left
        · simp only [Act.put, List.setIfInBounds_toArray, List.set_cons_zero, List.set_cons_succ, i64_w, i32_w]
          rfl
        refine y_pure (i := 12) (N := some 25) (v := ?_) (a' := ?_) #[true, true, true, true, true, true, true, true, true, false, true, true, true, false, false, false, false] rfl rfl (by kernel_rfl) (fun _ _ _ h => h) (Or.inl ⟨by rfl, ?_⟩) (fun _ => rfl) ?_ ?_
        rotate_left
        · intro w'
          go_simp
          with_reducible rfl
        rotate_left
        · simp only [Act.put, List.setIfInBounds_toArray, List.set_cons_zero, List.set_cons_succ, i64_w, i32_w]
          rfl
        refine y_pure (i := 13) (N := some 26) (v := ?_) (a' := ?_) #[true, true, true, true, true, true, true, true, true, false, true, true, true, true, false, false, false] rfl rfl (by kernel_rfl) (fun _ _ _ h => h) (Or.inl ⟨by rfl, ?_⟩) (fun _ => rfl) ?_ ?_
        rotate_left
        · intro w'
          go_simp
          with_reducible rfl
        rotate_left
        · simp only [Act.put, List.setIfInBounds_toArray, List.set_cons_zero, List.set_cons_succ, i64_w, i32_w]
          rfl
        refine y_load (i := 9) (N := some 22) (v := ?_) (a' := ?_) #[true, true, true, true, true, true, true, true, true, true, true, true, true, true, false, false, false] rfl rfl (by kernel_rfl) (by rfl) ?_ ?_ ?_
        rotate_left
        · go_simp
          with_reducible rfl
        rotate_left
        · simp only [Act.put, List.setIfInBounds_toArray, List.set_cons_zero, List.set_cons_succ, i64_w, i32_w]
          rfl
        refine y_yield (i := 14) (N := some 27) (lp := l) (args := #[.int .i64 (d : Int), .pointer (some (ad.add (i * 8)))]) #[true, true, true, true, true, true, true, true, true, true, true, true, true, true, true, false, false] rfl rfl (by kernel_rfl) (by rfl) YA1.out ?_ ?_
        · intro fn tmps assign body hy
          go_simp
          first | done | exact hy | (rw [hy])
        rintro e W3 (⟨rfl, hJ3, hk3⟩ | ⟨rfl, hJx3⟩)
        · -- the round goes on
          have HK3 := Aside0.mk hk3
          have hc3 : WkCell W3 Bw l (left - q.length) := hk3.2 Bw _ HCQ.out rfl hbad
          have z0 : W3.cell? ⟨Bw, 0, none⟩ = some (.int .i64 ((left - q.length : Nat) : Int)) := blk_cell hc3 0
          have zf : W3.frozen? ⟨Bw, 0, none⟩ = false := blk_frozen hc3 _
          have hpos : 0 < left - q.length := by have := HZ.out; omega
          have w1 : wrap64 (((left - q.length : Nat) : Int) - 1) = ((left - q.length - 1 : Nat) : Int) := by have := HL.out; unfold wrap64; omega
          have hc4 := wk_store hc3 hpos
          have hb3 : Below B w0 W3 := (HBQ.out.trans (below_drew (Below.refl _ _))).trans hk3.1
          have hb4 : Below B w0 (W3.setCell ⟨Bw, 0, none⟩ (.int .i64 ((left - q.length - 1 : Nat) : Int))) := hb3.setCell (p := ⟨Bw, 0, none⟩) hBw _
          have hj4 : J (ys ++ q ++ [el]) (W3.setCell ⟨Bw, 0, none⟩ (.int .i64 ((left - q.length - 1 : Nat) : Int))) := HJ.out _ _ _ (some Bw) hJ3 (grown_set W3 Bw _) (fun r e => by cases e; exact Nat.le_refl _)
          have b6 : (W3.setCell ⟨Bw, 0, none⟩ (.int .i64 ((left - q.length - 1 : Nat) : Int))).cell? ⟨(ad.add (i * 8)).block, (ad.add (i * 8)).off + 6, none⟩ = some (.slice A6 x.f6.length a6c) := pw_cell_below (hB ▸ hb4) B6.out
          have hlen1 : (q ++ [el]).length = q.length + 1 := by simp
          have C1 := Aside0.mk ((show CallsIn Fence.wide (n - 1) Try.prog 49 #[.pointer (some ⟨Bw, 0, none⟩), .slice A6 x.f6.length a6c, .int .i64 ((d : Int) + 1)] (W3.setCell ⟨Bw, 0, none⟩ (.int .i64 ((left - q.length - 1 : Nat) : Int))) _ from ih x.f6 SZ.out.1 (n - 1) (d + 1) A6 a6c (left - q.length - 1) (ys ++ (q ++ [el])) _ CC6.out LL6.out hb4 (by rw [← List.append_assoc]; exact hj4) (by rw [List.length_append, hlen1]; have := HD.out; omega) (by rw [List.length_append, hlen1]; have := HL.out; omega) hc4).mono
            (R' := fun e W5 => (e = .returned (.bool true) ∧ W5.cell? ⟨(ad.add (i * 8)).block, (ad.add (i * 8)).off + 7, none⟩ = some (.slice A7 x.f7.length a7c) ∧
                CallsIn Fence.wide (n - 1) Try.prog 49 #[.pointer (some ⟨Bw, 0, none⟩), .slice A7 x.f7.length a7c, .int .i64 ((d : Int) + 1)] W5 (fun e W6 => (e = .returned (.bool true) ∧ ∃ q2 : List (ElS w0), q2.map key = pre d (is.take (i + 1)) ∧ q2.length ≤ left ∧ J (ys ++ q2) W6 ∧ Below B w0 W6 ∧ WkCell W6 Bw l (left - q2.length)) ∨ (e = .returned (.bool false) ∧ WkPost l B Bw w0 J Jx ys left (pre d is) e W6))) ∨
              (e = .returned (.bool false) ∧ WkPost l B Bw w0 J Jx ys left (pre d is) e W5))
            (fun e W5 h5 => by
              have hq1 : (q ++ [el]).map key = pre d (is.take i) ++ [(d, x)] := by rw [List.map_append, HQ.out, List.map_cons, List.map_nil, HKEY.out]
              by_cases he : e = .returned (.bool false)
              · exact .inr ⟨he, fin_false h5 he (by rw [hlen1]; omega) ⟨pre (d + 1) x.f7 ++ r, by rw [hq1, EP.out]; simp⟩⟩
              · rcases h5 with ⟨rfl, q1, hq, hql1, hj5, hb5, hc5⟩ | ⟨h, _⟩ | ⟨h, _⟩
                · refine .inl ⟨rfl, pw_cell_below (hB ▸ hb5) B7.out, ?_⟩
                  have hlen2 : (q ++ [el] ++ q1).length = q.length + 1 + q1.length := by simp; omega
                  have h7 := ih x.f7 SZ.out.2 (n - 1) (d + 1) A7 a7c (left - q.length - 1 - q1.length) (ys ++ (q ++ [el] ++ q1)) W5 CC7.out LL7.out hb5 (by rw [← List.append_assoc, ← List.append_assoc] at *; exact hj5) (by rw [List.length_append, hlen2]; have := HD.out; omega) (by rw [List.length_append, hlen2]; have := HL.out; omega) hc5
                  refine (show CallsIn Fence.wide (n - 1) Try.prog 49 #[.pointer (some ⟨Bw, 0, none⟩), .slice A7 x.f7.length a7c, .int .i64 ((d : Int) + 1)] W5 _ from h7).mono (fun e W6 h6 => ?_)
                  have hq2 : (q ++ [el] ++ q1).map key = pre d (is.take i) ++ ((d, x) :: pre (d + 1) x.f6) := by rw [List.map_append, hq1, hq]; simp
                  by_cases he : e = .returned (.bool false)
                  · exact .inr ⟨he, fin_false h6 he (by rw [hlen2]; omega) ⟨r, by rw [hq2, EP.out]; simp⟩⟩
                  · rcases h6 with ⟨rfl, q2, hq2', hql2, hj6, hb6, hc6⟩ | ⟨h, _⟩ | ⟨h, _⟩
                    · refine .inl ⟨rfl, q ++ [el] ++ q1 ++ q2, by rw [List.map_append, hq2, hq2', ET.out]; simp, by rw [List.length_append, hlen2]; omega, by rw [← List.append_assoc] at hj6; simpa [List.append_assoc] using hj6, hb6, ?_⟩
                      rw [List.length_append, hlen2]
                      rw [show left - (q.length + 1 + q1.length + q2.length) = left - q.length - 1 - q1.length - q2.length by omega]
                      exact hc6
                    · exact absurd h he
                    · exact absurd h he
                · exact absurd h he
                · exact absurd h he))
          have wd : wrap64 ((d : Int) + 1) = (d : Int) + 1 := by have := HD.out; have := HL.out; unfold wrap64; omega
          clear hJ3 hk3 hc3 hc4 hb3 hb4 hj4 hlen1 hpos
          refine ⟨_, rfl, fun a' ha => ?_⟩
          subst ha
          refine y_norm (a' := ?_) ?_ ?_
          rotate_left
          · simp only [Act.put, List.setIfInBounds_toArray, List.set_cons_zero, List.set_cons_succ, i64_w, i32_w]
            rfl
          refine y_pure (i := 15) (N := some 28) (v := ?_) (a' := ?_) #[true, true, true, true, true, true, true, true, true, true, true, true, true, true, true, true, false] rfl rfl (by kernel_rfl) (fun _ _ _ h => h) (Or.inl ⟨by rfl, ?_⟩) (fun _ => rfl) ?_ ?_
          rotate_left
          · intro w'
            go_simp
            with_reducible rfl
          rotate_left
          · simp only [Act.put, List.setIfInBounds_toArray, List.set_cons_zero, List.set_cons_succ, i64_w, i32_w]
            rfl
          refine y_pure (i := 16) (N := some 29) (v := ?_) (a' := ?_) #[true, true, true, true, true, true, true, true, true, true, true, true, true, true, true, true, true] rfl rfl (by kernel_rfl) (fun _ _ _ h => h) (Or.inl ⟨by rfl, ?_⟩) (fun _ => rfl) ?_ ?_
          rotate_left
          · intro w'
            go_simp
            with_reducible rfl
          rotate_left
          · simp only [Act.put, List.setIfInBounds_toArray, List.set_cons_zero, List.set_cons_succ, i64_w, i32_w]
            rfl
          refine y_done (by kernel_rfl) ?_
          gi_wp2_with (first
            | (refine ⟨trivial, ?_⟩; (try refine ⟨(fun h => by cases h), ?_⟩); gi_at_call 49; (with_reducible refine C1.out.mono ?_); clear C1; rintro e W5 (⟨rfl, b7, h7⟩ | ⟨rfl, hfin⟩))
            | (refine ⟨trivial, ?_⟩; (try refine ⟨(fun h => by cases h), ?_⟩); gi_at_call 49; (with_reducible refine h7.mono ?_); clear h7; rintro e W6 (⟨rfl, q2, g1, g2, g3, g4, g5⟩ | ⟨rfl, hfin⟩)))
          · clear w1 wd
            have hm := step_down hlt
            rw [wrap_up hlt HMX.out]
            exact ⟨⟨i + 1, q2, hlt, rfl, g1, g2, g3, g4, g5⟩, by simpa [intOf] using hm⟩
          · go_ret
            exact hfin
          · refine ⟨trivial, ?_⟩
            gi_wp2
            go_ret
            exact hfin
        · -- the round has said 'no more'
          have HX3 := Aside0.mk hJx3
          clear hJx3
          refine ⟨_, rfl, fun a' ha => ?_⟩
          subst ha
          refine y_norm (a' := ?_) ?_ ?_
          rotate_left
          · simp only [Act.put, List.setIfInBounds_toArray, List.set_cons_zero, List.set_cons_succ, i64_w, i32_w]
            rfl
          refine y_pure (i := 15) (N := some 28) (v := ?_) (a' := ?_) #[true, true, true, true, true, true, true, true, true, true, true, true, true, true, true, true, false] rfl rfl (by kernel_rfl) (fun _ _ _ h => h) (Or.inl ⟨by rfl, ?_⟩) (fun _ => rfl) ?_ ?_
          rotate_left
          · intro w'
            go_simp
            with_reducible rfl
          rotate_left
          · simp only [Act.put, List.setIfInBounds_toArray, List.set_cons_zero, List.set_cons_succ, i64_w, i32_w]
            rfl
          refine y_pure (i := 16) (N := some 29) (v := ?_) (a' := ?_) #[true, true, true, true, true, true, true, true, true, true, true, true, true, true, true, true, true] rfl rfl (by kernel_rfl) (fun _ _ _ h => h) (Or.inl ⟨by rfl, ?_⟩) (fun _ => rfl) ?_ ?_
          rotate_left
          · intro w'
            go_simp
            with_reducible rfl
          rotate_left
          · simp only [Act.put, List.setIfInBounds_toArray, List.set_cons_zero, List.set_cons_succ, i64_w, i32_w]
            rfl
          refine y_done (by kernel_rfl) ?_
          gi_wp2
          go_ret
          refine .inr (.inl ⟨rfl, q ++ [el], ?_, by rw [← List.append_assoc]; exact HX3.out⟩)
          rw [List.map_append, HQ.out, List.map_cons, List.map_nil, HKEY.out, EP.out]
          exact ⟨pre (d + 1) x.f6 ++ (pre (d + 1) x.f7 ++ r), by simp⟩
    · obtain rfl : i = is.length := by have := HI.out; omega
      have dl : decide (is.length < is.length) = false := decide_eq_false hlt
      have hq := HQ.out
      rw [List.take_length] at hq
      have HQ2 := Aside0.mk hq
      clear hq
      gi_wp2
      go_ret
      exact .inl ⟨rfl, q, HQ2.out, hql, HJQ.out, HBQ.out, HCQ.out⟩
end Go.Proofs.Ytbekfmeaeaghpaa.EInstr
namespace Go.Proofs.Ytbekfmeaeaghpaa.EInstr
open Go Go.RowKit Go.Proofs.Ytbekfmeaeaghpaa.F Go.Proofs.YtbekfmeaeaghpaaW.Hand Go.Proofs.YtbekfmeaeaghpaaW.PrintWords Go.Proofs.YtbekfmeaeaghpaaW.PrintLast Go.Proofs.YtbekfmeaeaghpaaW.PrintMore
attribute [local go_sem] Oper.semAt_some
set_option linter.unusedVariables false
set_option linter.unusedSimpArgs false
theorem yield_any {m m' : Nat} {P : Program} {l : Nat} {args : Array Value} {W : World} {R : Ending → World → Prop} (h : YieldAt Fence.wide m P l args W R) : YieldAt Fence.wide m' P l args W R := by
  obtain ⟨fn, tmps, assign, body, hy, hR⟩ := h
  exact ⟨fn, tmps, assign, body, hy, hR.1, fun c cs _ => hR.2 c cs (by intro d hd; cases hd)⟩
set_option maxHeartbeats 4000000 in
set_option maxRecDepth 100000 in
/-- What Each yields: all instructions with their depths, or the first 8193 of them; or those up to one of them. -/
theorem each_stops (n B : Nat) (Bad : Nat → Prop) (w0 w1 : World) (Bi : Nat) (is : List S44) (A : Option Addr) (c : Nat) (hB : B = w0.heap.size) (h1 : Below B w0 w1) (hbi : Bi < w1.heap.size) (hi : w1.cell? ⟨Bi, 0, none⟩ = some (.slice A is.length c)) (hA : k44.C w0 A is.length is) (hc : is.length ≤ c) (hbad : ∀ k, Bad k → k < w1.heap.size) :
    SeqC Fence.wide n Try.prog 48 #[.pointer (some ⟨Bi, 0, none⟩)] (encE (w0 := w0)) (KpC B Bad) (fun ys => ys.map key = (pre 0 is).take 8193) (fun p => p.map key <+: pre 0 is) 8193 w1 := by
  intro l J Jx W hW hJ hJx hY h0
  have hs := hW.size
  have hB1 : B ≤ W.heap.size := by have := h1.size; omega
  have hiW : W.cell? ⟨Bi, 0, none⟩ = some (.slice A is.length c) := (hW.cell (p := ⟨Bi, 0, none⟩) hbi).trans hi
  have hb2 : Below B w0 (W.alloc (.cells #[.int .i64 8193, .func (.yield l) #[] #[]] 99)) := (h1.trans (hW.mono (by have := h1.size; omega))).trans (((Below.refl _ W).alloc (Nat.le_refl _) _).mono hB1)
  have hw := Aside0.mk (show CallsIn Fence.wide (n - 1) Try.prog 49 #[.pointer (some ⟨W.heap.size, 0, none⟩), .slice A is.length c, .int .i64 0] (W.alloc (.cells #[.int .i64 8193, .func (.yield l) #[] #[]] 99)) _ from walker_in l B W.heap.size Bad w0 hB hB1 (fun h => by have := hbad _ h; omega) J Jx hJ (fun m ys x W' hj hl => yield_any (hY ys x W' hj hl)) (SizeOf.sizeOf is) is (Nat.le_refl _) (n - 1) 0 A c 8193 [] (W.alloc (.cells #[.int .i64 8193, .func (.yield l) #[] #[]] 99)) hA hc hb2
    (hJ _ _ _ none h0 (World.grownBy_alloc W _ none) (fun r e => by cases e)) (by simp) (by simp) (blk_new W _))
  have hiW2 : (W.alloc (.cells #[.int .i64 8193, .func (.yield l) #[] #[]] 99)).cell? ⟨Bi, 0, none⟩ = some (.slice A is.length c) := cell_kept hiW (World.grownBy_alloc W _ none) (fun r e => by cases e)
  clear hJ hJx hY h0 hi hiW
  refine callsIn_of_wp Try.func48 rfl trivial ?_ rfl
  simp only [Try.ntmps48, List.size_toArray, List.length_cons, List.length_nil, Nat.reduceAdd, Nat.reduceSub, Array.replicate_succ, Array.replicate_zero, List.push_toArray, List.append_toArray, List.nil_append, List.cons_append]
  gi_wp2_with (refine ⟨trivial, ?_⟩; (try refine ⟨(fun h => by cases h), ?_⟩); gi_at_call 49; (with_reducible refine hw.out.mono ?_); rintro e W2 (⟨rfl, q, h1, h2, h3, _, _⟩ | ⟨rfl, q, h1, h2⟩ | ⟨rfl, q, h1, h2, h3, h4⟩))
  · go_end0
    exact ⟨⟨_, rfl⟩, .inl ⟨_, by rw [h1, List.take_of_length_le (by rw [← h1]; simpa using h2)], by simpa using h3⟩⟩
  · go_end0
    exact ⟨⟨_, rfl⟩, .inr ⟨q, h1, by simpa using h2⟩⟩
  · go_end0
    refine ⟨⟨_, rfl⟩, .inl ⟨_, ?_, by simpa using h4⟩⟩
    obtain ⟨t, ht⟩ := h1
    rw [← ht, List.take_append_of_le_length (by simp; omega), List.take_of_length_le (by simp; omega)]
set_option maxHeartbeats 1000000 in
theorem each_in (n : Nat) (v : Value) (A : Option Addr) (k c : Nat) (hv : v = .slice A k c) (w : World) :
    CallsIn Fence.wide n Try.prog 33 #[v] w fun e w' => e = .returned (.func (.func 48) #[] #[.pointer (some ⟨w.heap.size, 0, none⟩)]) ∧ w' = w.alloc (.cells #[v] 22) := by
  subst hv
  refine callsIn_of_wp Try.func33 rfl trivial ?_ rfl
  simp only [Try.ntmps33, List.size_toArray, List.length_cons, List.length_nil, Nat.reduceAdd, Nat.reduceSub, Array.replicate_succ, Array.replicate_zero, List.push_toArray, List.append_toArray, List.nil_append, List.cons_append]
  gi_wp2
  go_ret
  exact ⟨by simp, rfl⟩
def IMay (w : World) (pre0 : List (ElS w)) (W : World) : Prop := (W.heap[w.heap.size]? = some (.cells #[.int .i64 0] 24 (0, 0)) ∧ W.heap[w.heap.size + 1]? = some (.cells #[.int .i64 (pre0.length : Int)] 3 (0, 0)) ∧ scanE stepE 0 (pre0.map key) = 0) ∧ Below w.heap.size w W
def XMay (w : World) (cd : Code) (pre0 : List (ElS w)) (W : World) : Prop := (cd = .ret ∧ scanE stepE 0 (pre0.map key) ≠ 0 ∧ W.heap[w.heap.size]? = some (.cells #[.int .i64 (scanE stepE 0 (pre0.map key))] 24 (0, 0))) ∧ Below w.heap.size w W
theorem may_ownI (w : World) {B : Nat} (hB : w.heap.size + 2 ≤ B) : OwnC B (IMay w) := fun s A C row hs hg hr =>
  ⟨⟨(OwnC.block (β := Unit) (by omega) (fun _ _ => True)) () A C row hs.1.1 hg hr, (OwnC.block (β := Unit) (by omega) (fun _ _ => True)) () A C row hs.1.2.1 hg hr, hs.1.2.2⟩, OwnC.below (β := Unit) (Nat.le_refl _) (by omega) () A C row hs.2 hg hr⟩
theorem may_ownX (w : World) {B : Nat} (hB : w.heap.size + 2 ≤ B) (cd : Code) : OwnC B (XMay w cd) := fun s A C row hs hg hr =>
  ⟨⟨hs.1.1, hs.1.2.1, (OwnC.block (β := Unit) (by omega) (fun _ _ => True)) () A C row hs.1.2.2 hg hr⟩, OwnC.below (β := Unit) (Nat.le_refl _) (by omega) () A C row hs.2 hg hr⟩
theorem kpC_set {B b : Nat} {Bad : Nat → Prop} {W : World} {v : Value} (hb : B ≤ b) (hbad : Bad b) : KpC B Bad W (W.setCell ⟨b, 0, none⟩ v) :=
  ⟨(Below.refl B W).setCell (p := ⟨b, 0, none⟩) hb _, fun k o hk _ hn => (Below.heap_setCell W ⟨b, 0, none⟩ v k (fun e => hn (e ▸ hbad))).trans hk⟩
theorem may_at {w W : World} {e : El} (h : e.At w) (hb : Below w.heap.size w W) : Calls Try.prog 41 #[.pointer (some e.ad)] W fun r w' => r = .returned (.bool (mayB e.x)) ∧ Drawn0 W w' := by
  obtain ⟨_, _, A5, c5, A6, c6, A7, c7, z0, z1, z2, z3, z4, z5, z6, z7, l5, C5, l6, C6, l7, C7⟩ := h
  exact may_c (pw_cell_below hb z0) (pw_cell_below hb z1) (pw_cell_below hb z2) (pw_cell_below hb z3) (pw_cell_below hb z4) (pw_cell_below hb z5) (pw_cell_below hb z6) (pw_cell_below hb z7) l5 (Kd.C_below C5 hb) (Kd.C_max C6) (Kd.C_max C7)
theorem keeps_drewN (A : World) (m : Nat) : KeepsOthers A (A.drewN m) := ⟨Nat.le_refl _, fun _ _ h _ => h⟩
theorem may_exit {w W W2 : World} {pre0 : List (ElS w)} {e : ElS w} {m : Nat} {v : Int} {a : Act} {Kp : World → World → Prop} (hk : KeepsOthers W W2) (hr : W2.heap[w.heap.size]? = some (.cells #[.int .i64 0] 24 (0, 0))) (hb : Below w.heap.size w W2) (hv : v ≠ 0) (hs : scanE stepE 0 ((pre0 ++ [e]).map key) = v) :
    ownPostK Kp (IMay w) (XMay w) (pre0 ++ [e]) W Exit.ret a ((W2.drewN m).setCell ⟨w.heap.size, 0, none⟩ (.int .i64 v)) := by
  subst hs
  exact ⟨(hk.trans (keeps_drewN W2 m)).trans (KeepsOthers.setCell _ _ _), ⟨rfl, hv, blk_set (show (W2.drewN m).heap[w.heap.size]? = _ from hr) 0 _⟩, (pw_below_drewN hb m).setCell (p := ⟨w.heap.size, 0, none⟩) (Nat.le_refl _) _⟩
theorem may_next {w W W2 : World} {pre0 : List (ElS w)} {e : ElS w} {m : Nat} {a : Act} (hk : KeepsOthers W W2) (hkp : KpC w.heap.size (fun k => k = w.heap.size ∨ k = w.heap.size + 1) W W2) (hr : W2.heap[w.heap.size]? = some (.cells #[.int .i64 0] 24 (0, 0))) (hn : W2.heap[w.heap.size + 1]? = some (.cells #[.int .i64 ((pre0.length : Int) + 1)] 3 (0, 0))) (hb : Below w.heap.size w W2) (hs : scanE stepE 0 ((pre0 ++ [e]).map key) = 0) :
    ownPostK (KpC w.heap.size (fun k => k = w.heap.size ∨ k = w.heap.size + 1)) (IMay w) (XMay w) (pre0 ++ [e]) W Exit.normal a (W2.drewN m) :=
  ⟨hk.trans (keeps_drewN W2 m), ⟨pw_below_drewN hkp.1 m, hkp.2⟩, ⟨hr, by rw [List.length_append]; exact hn, hs⟩, pw_below_drewN hb m⟩
theorem may_done {w : World} {is : List S44} {ys : List (ElS w)} (h : ys.map key = (pre 0 is).take 8193) (hs : scanE stepE 0 (ys.map key) = 0) : mayE is = 0 := by
  have hl := scan_len stepE_big _ 0 hs (by omega)
  rw [h, List.length_take] at hl
  rw [h, List.take_of_length_le (by omega)] at hs
  exact hs
theorem may_stop {w : World} {is : List S44} {p : List (ElS w)} (h : p.map key <+: pre 0 is) (hs : scanE stepE 0 (p.map key) ≠ 0) : mayE is = scanE stepE 0 (p.map key) := by
  obtain ⟨t, ht⟩ := h
  unfold mayE
  rw [← ht, scanE_append, if_neg hs]
theorem may_fin {w W1 : World} {D : Nat} {v : Value} (h : W1.heap[w.heap.size]? = some (.cells #[v] 24 (0, 0))) (hK : W1.heap[D]? = some (.deferred (some []))) (hD : w.heap.size + 1 ≤ D) (hB : Below w.heap.size w W1) : (W1.putObj D (.deferred none)).cell? ⟨w.heap.size, 0, none⟩ = some v ∧ Below w.heap.size w (W1.putObj D (.deferred none)) :=
  ⟨cell_kept (blk_cell h 0) (grownBy_putObj' _ D (.deferred none)) (fun r e => by cases e; exact ⟨_, hK, rfl⟩), hB.trans (belowK_b (w := w) (Nat.le_refl _) W1 D _ _ (by omega) hK rfl rfl)⟩
set_option maxRecDepth 100000 in
set_option maxHeartbeats 8000000 in
theorem may_calls (w : World) (is : List S44) (A : Option Addr) (c : Nat) (hA : k44.C w A is.length is) (hc : is.length ≤ c) :
    Calls Try.prog 27 #[.slice A is.length c] w fun e w' => e = .returned (.int .i64 (mayE is)) ∧ Below w.heap.size w w' := by
  refine (callsIn_wide (n := 3)).1 ?_
  refine callsIn_of_wp_marks Try.func27 rfl trivial ?_ rfl
  simp only [Try.ntmps27, List.size_toArray, List.length_cons, List.length_nil, Nat.reduceAdd, Nat.reduceSub, Array.replicate_succ, Array.replicate_zero, List.push_toArray, List.append_toArray, List.nil_append, List.cons_append]
  gi_wp2_with (refine ⟨trivial, ?_⟩; gi_at_call 33; refine (each_in 2 _ A is.length c rfl _).mono ?_; rintro e w' ⟨rfl, rfl⟩)
  have k0 : (((w.alloc (.cells #[.int .i64 0] 24)).alloc (.cells #[.int .i64 0] 3)).alloc (.cells #[.slice A is.length c] 22)).heap[w.heap.size]? = some (.cells #[.int .i64 0] 24 (0, 0)) := blk_below (blk_below (blk_new w _) (below_alloc (Below.refl _ _) _)) (below_alloc (Below.refl _ _) _)
  have k1 : (((w.alloc (.cells #[.int .i64 0] 24)).alloc (.cells #[.int .i64 0] 3)).alloc (.cells #[.slice A is.length c] 22)).heap[w.heap.size + 1]? = some (.cells #[.int .i64 0] 3 (0, 0)) := blk_below (by have := blk_new (w.alloc (.cells #[.int .i64 0] 24)) (.cells #[.int .i64 0] 3); rwa [World.size_alloc] at this) (below_alloc (Below.refl _ _) _)
  have k2 : (((w.alloc (.cells #[.int .i64 0] 24)).alloc (.cells #[.int .i64 0] 3)).alloc (.cells #[.slice A is.length c] 22)).cell? ⟨w.heap.size + 1 + 1, 0, none⟩ = some (.slice A is.length c) := by
    have := blk_cell (blk_new ((w.alloc (.cells #[.int .i64 0] 24)).alloc (.cells #[.int .i64 0] 3)) (.cells #[.slice A is.length c] 22)) 0
    rw [World.size_alloc, World.size_alloc] at this
    exact this
  have hB0 : Below w.heap.size w (((w.alloc (.cells #[.int .i64 0] 24)).alloc (.cells #[.int .i64 0] 3)).alloc (.cells #[.slice A is.length c] 22)) := (((Below.refl _ w).alloc (by simp <;> omega) _).alloc (by simp <;> omega) _).alloc (by simp <;> omega) _
  have hsz : (((w.alloc (.cells #[.int .i64 0] 24)).alloc (.cells #[.int .i64 0] 3)).alloc (.cells #[.slice A is.length c] 22)).heap.size = w.heap.size + 3 := by simp [World.size_alloc]
  refine range_own rfl (by omega) (gf := 48) (lb := #[.pointer (some ⟨w.heap.size + 1 + 1, 0, none⟩)]) rfl trivial (enters_of Try.func48 (by kernel_rfl) rfl)
    (each_stops 2 w.heap.size (fun k => k = w.heap.size ∨ k = w.heap.size + 1) w _ (w.heap.size + 1 + 1) is A c rfl hB0 (by rw [hsz]; omega) k2 hA hc (by rw [hsz]; intro k hk; omega)) (fun h k => kpC_t h k) (kpC_b (by rw [hsz]; omega)) (Below.refl _ _) (fun _ => rfl)
    (IMay w) (XMay w) (may_ownI w (by rw [hsz]; omega)) (may_ownX w (by rw [hsz]; omega)) ⟨⟨k0, k1, rfl⟩, hB0⟩
    (fun x => { tmps := #[.slice A is.length c, undef, .pointer (some ⟨w.heap.size, 0, none⟩), .pointer (some ⟨w.heap.size + 1, 0, none⟩), .int .i64 (x.1.d : Int), .pointer (some x.1.ad), .slice A is.length c, .func (.func 48) #[] #[.pointer (some ⟨w.heap.size + 1 + 1, 0, none⟩)], .int .i64 (x.1.d : Int), .pointer (some x.1.ad), undef, undef, undef, undef, undef, undef, undef, undef, undef, undef, undef, undef, undef, undef, undef, undef, undef, undef, undef, undef, undef], defers := [] }) ?assign ?body ?done ?stop
  case assign =>
    intro l x W Kc hKc
    gi_wp2
    simpa [encE] using hKc
  case body =>
    rintro l pre0 x W hl ⟨⟨hr, hn, hs⟩, hB⟩ hpl
    obtain ⟨e, hx⟩ := x
    have HX := Aside0.mk hx
    have HS := Aside0.mk hs
    have HR := Aside0.mk hr
    have HBB := Aside0.mk hB
    have zn : W.cell? ⟨w.heap.size + 1, 0, none⟩ = some (.int .i64 (pre0.length : Int)) := blk_cell hn 0
    have fn : W.frozen? ⟨w.heap.size + 1, 0, none⟩ = false := blk_frozen hn _
    have HN := Aside0.mk hn
    have w1 : wrap64 ((pre0.length : Int) + 1) = (pre0.length : Int) + 1 := by unfold wrap64; omega
    have HPL := Aside0.mk hpl
    have hB2 : Below w.heap.size w (W.setCell ⟨w.heap.size + 1, 0, none⟩ (.int .i64 ((pre0.length : Int) + 1))) := hB.setCell (p := ⟨w.heap.size + 1, 0, none⟩) (by simp) _
    have HB2 := Aside0.mk hB2
    have z0 : (W.setCell ⟨w.heap.size + 1, 0, none⟩ (.int .i64 ((pre0.length : Int) + 1))).cell? e.ad = some (.int .i64 e.x.f0) := by
      obtain ⟨_, _, A5, c5, A6, c6, A7, c7, h0, _⟩ := hx
      exact pw_cell_below hB2 h0
    have hn2 : (W.setCell ⟨w.heap.size + 1, 0, none⟩ (.int .i64 ((pre0.length : Int) + 1))).heap[w.heap.size + 1]? = some (.cells #[.int .i64 ((pre0.length : Int) + 1)] 3 (0, 0)) := blk_set hn 0 (.int .i64 ((pre0.length : Int) + 1))
    have hr2 : (W.setCell ⟨w.heap.size + 1, 0, none⟩ (.int .i64 ((pre0.length : Int) + 1))).heap[w.heap.size]? = some (.cells #[.int .i64 0] 24 (0, 0)) := (Below.heap_setCell W ⟨w.heap.size + 1, 0, none⟩ _ _ (by simp)).trans hr
    have zn2 : (W.setCell ⟨w.heap.size + 1, 0, none⟩ (.int .i64 ((pre0.length : Int) + 1))).cell? ⟨w.heap.size + 1, 0, none⟩ = some (.int .i64 ((pre0.length : Int) + 1)) := blk_cell hn2 0
    have zr2 : (W.setCell ⟨w.heap.size + 1, 0, none⟩ (.int .i64 ((pre0.length : Int) + 1))).cell? ⟨w.heap.size, 0, none⟩ = some (.int .i64 0) := blk_cell hr2 0
    have fr2 : (W.setCell ⟨w.heap.size + 1, 0, none⟩ (.int .i64 ((pre0.length : Int) + 1))).frozen? ⟨w.heap.size, 0, none⟩ = false := blk_frozen hr2 _
    have HN2 := Aside0.mk hn2
    have HR2 := Aside0.mk hr2
    have HK := Aside0.mk (show KeepsOthers W (W.setCell ⟨w.heap.size + 1, 0, none⟩ (.int .i64 ((pre0.length : Int) + 1))) from KeepsOthers.setCell _ _ _)
    have HKP := Aside0.mk (show KpC w.heap.size (fun k => k = w.heap.size ∨ k = w.heap.size + 1) W (W.setCell ⟨w.heap.size + 1, 0, none⟩ (.int .i64 ((pre0.length : Int) + 1))) from kpC_set (by simp) (.inr rfl))
    have snoc : ∀ r, scanE stepE 0 ((pre0 ++ [(⟨e, hx⟩ : ElS w)]).map key) = r ↔ stepE (pre0.length + 1) (e.d, e.x) = r := fun r => by
      rw [List.map_append, List.map_cons, List.map_nil, scanE_snoc stepE 0 _ _ hs, List.length_map, Nat.zero_add]
      exact Iff.rfl
    have SN := Aside0.mk snoc
    clear hs hr hB hn hB2 hn2 hr2 hpl k0 k1 k2 hB0 snoc
    by_cases hb : ofF e.x.f0 = 2
    · have dk : (ofF e.x.f0 == 2) = true := beq_iff_eq.2 hb
      by_cases hd : 32 ≤ e.d
      · have d32 : decide (32 ≤ (e.d : Int)) = true := decide_eq_true (by omega)
        have HE : Aside0 (stepE (pre0.length + 1) (e.d, e.x) = 1402) := ⟨by unfold stepE; rw [if_pos ⟨hb, hd⟩]⟩
        clear hb hd
        gi_wp2_with (first | (refine ⟨trivial, ?_⟩; (try refine ⟨(fun h => by cases h), ?_⟩); gi_at_call 40; refine (CallsIn.inRound l (callsIn_wide.2 (of_c _ _))).mono ?_; rintro ee w' ⟨rfl, ⟨⟨m1, rfl⟩⟩⟩) | (refine ⟨trivial, ?_⟩; (try refine ⟨(fun h => by cases h), ?_⟩); gi_at_call 41; refine (CallsIn.inRound l (callsIn_wide.2 (may_at HX.out (pw_below_drewN HB2.out _)))).mono ?_; rintro ee w' ⟨rfl, ⟨⟨m2, rfl⟩⟩⟩))
        exact may_exit HK.out HR2.out HB2.out (by decide) ((SN.out _).2 HE.out)
      · have d32 : decide (32 ≤ (e.d : Int)) = false := decide_eq_false (by omega)
        have HNB : Aside0 (¬ (ofF e.x.f0 = 2 ∧ 32 ≤ e.d)) := ⟨fun h => hd h.2⟩
        clear hb hd
        by_cases hc : 8192 < pre0.length + 1
        · have dc : decide (8192 < (pre0.length : Int) + 1) = true := decide_eq_true (by omega)
          have HE : Aside0 (stepE (pre0.length + 1) (e.d, e.x) = 1400) := ⟨by unfold stepE; rw [if_neg (show ¬ (ofF e.x.f0 = 2 ∧ 32 ≤ e.d) from HNB.out), if_pos (Or.inl hc)]⟩
          clear hc
          gi_wp2_with (first | (refine ⟨trivial, ?_⟩; (try refine ⟨(fun h => by cases h), ?_⟩); gi_at_call 40; refine (CallsIn.inRound l (callsIn_wide.2 (of_c _ _))).mono ?_; rintro ee w' ⟨rfl, ⟨⟨m1, rfl⟩⟩⟩) | (refine ⟨trivial, ?_⟩; (try refine ⟨(fun h => by cases h), ?_⟩); gi_at_call 41; refine (CallsIn.inRound l (callsIn_wide.2 (may_at HX.out (pw_below_drewN HB2.out _)))).mono ?_; rintro ee w' ⟨rfl, ⟨⟨m2, rfl⟩⟩⟩))
          refine ⟨trivial, ?_⟩
          gi_wp2
          exact may_exit HK.out HR2.out HB2.out (by decide) ((SN.out _).2 HE.out)
        · have dc : decide (8192 < (pre0.length : Int) + 1) = false := decide_eq_false (by omega)
          cases hm : mayB e.x with
          | false =>
            have HE : Aside0 (stepE (pre0.length + 1) (e.d, e.x) = 1400) := ⟨by unfold stepE; rw [if_neg (show ¬ (ofF e.x.f0 = 2 ∧ 32 ≤ e.d) from HNB.out), if_pos (Or.inr hm)]⟩
            clear hc
            gi_wp2_with (first | (refine ⟨trivial, ?_⟩; (try refine ⟨(fun h => by cases h), ?_⟩); gi_at_call 40; refine (CallsIn.inRound l (callsIn_wide.2 (of_c _ _))).mono ?_; rintro ee w' ⟨rfl, ⟨⟨m1, rfl⟩⟩⟩) | (refine ⟨trivial, ?_⟩; (try refine ⟨(fun h => by cases h), ?_⟩); gi_at_call 41; refine (CallsIn.inRound l (callsIn_wide.2 (may_at HX.out (pw_below_drewN HB2.out _)))).mono ?_; rintro ee w' ⟨rfl, ⟨⟨m2, rfl⟩⟩⟩))
            exact may_exit HK.out HR2.out HB2.out (by decide) ((SN.out _).2 HE.out)
          | true =>
            have HE : Aside0 (stepE (pre0.length + 1) (e.d, e.x) = 0) := ⟨by unfold stepE; rw [if_neg (show ¬ (ofF e.x.f0 = 2 ∧ 32 ≤ e.d) from HNB.out), if_neg (by rw [hm]; simp; omega)]⟩
            clear hc
            gi_wp2_with (first | (refine ⟨trivial, ?_⟩; (try refine ⟨(fun h => by cases h), ?_⟩); gi_at_call 40; refine (CallsIn.inRound l (callsIn_wide.2 (of_c _ _))).mono ?_; rintro ee w' ⟨rfl, ⟨⟨m1, rfl⟩⟩⟩) | (refine ⟨trivial, ?_⟩; (try refine ⟨(fun h => by cases h), ?_⟩); gi_at_call 41; refine (CallsIn.inRound l (callsIn_wide.2 (may_at HX.out (pw_below_drewN HB2.out _)))).mono ?_; rintro ee w' ⟨rfl, ⟨⟨m2, rfl⟩⟩⟩))
            exact may_next HK.out HKP.out HR2.out HN2.out HB2.out ((SN.out _).2 HE.out)
    · have dk : (ofF e.x.f0 == 2) = false := beq_eq_false_iff_ne.2 hb
      have HNB : Aside0 (¬ (ofF e.x.f0 = 2 ∧ 32 ≤ e.d)) := ⟨fun h => hb h.1⟩
      clear hb
      by_cases hc : 8192 < pre0.length + 1
      · have dc : decide (8192 < (pre0.length : Int) + 1) = true := decide_eq_true (by omega)
        have HE : Aside0 (stepE (pre0.length + 1) (e.d, e.x) = 1400) := ⟨by unfold stepE; rw [if_neg (show ¬ (ofF e.x.f0 = 2 ∧ 32 ≤ e.d) from HNB.out), if_pos (Or.inl hc)]⟩
        clear hc
        gi_wp2_with (first | (refine ⟨trivial, ?_⟩; (try refine ⟨(fun h => by cases h), ?_⟩); gi_at_call 40; refine (CallsIn.inRound l (callsIn_wide.2 (of_c _ _))).mono ?_; rintro ee w' ⟨rfl, ⟨⟨m1, rfl⟩⟩⟩) | (refine ⟨trivial, ?_⟩; (try refine ⟨(fun h => by cases h), ?_⟩); gi_at_call 41; refine (CallsIn.inRound l (callsIn_wide.2 (may_at HX.out (pw_below_drewN HB2.out _)))).mono ?_; rintro ee w' ⟨rfl, ⟨⟨m2, rfl⟩⟩⟩))
        refine ⟨trivial, ?_⟩
        gi_wp2
        exact may_exit HK.out HR2.out HB2.out (by decide) ((SN.out _).2 HE.out)
      · have dc : decide (8192 < (pre0.length : Int) + 1) = false := decide_eq_false (by omega)
        cases hm : mayB e.x with
        | false =>
          have HE : Aside0 (stepE (pre0.length + 1) (e.d, e.x) = 1400) := ⟨by unfold stepE; rw [if_neg (show ¬ (ofF e.x.f0 = 2 ∧ 32 ≤ e.d) from HNB.out), if_pos (Or.inr hm)]⟩
          clear hc
          gi_wp2_with (first | (refine ⟨trivial, ?_⟩; (try refine ⟨(fun h => by cases h), ?_⟩); gi_at_call 40; refine (CallsIn.inRound l (callsIn_wide.2 (of_c _ _))).mono ?_; rintro ee w' ⟨rfl, ⟨⟨m1, rfl⟩⟩⟩) | (refine ⟨trivial, ?_⟩; (try refine ⟨(fun h => by cases h), ?_⟩); gi_at_call 41; refine (CallsIn.inRound l (callsIn_wide.2 (may_at HX.out (pw_below_drewN HB2.out _)))).mono ?_; rintro ee w' ⟨rfl, ⟨⟨m2, rfl⟩⟩⟩))
          exact may_exit HK.out HR2.out HB2.out (by decide) ((SN.out _).2 HE.out)
        | true =>
          have HE : Aside0 (stepE (pre0.length + 1) (e.d, e.x) = 0) := ⟨by unfold stepE; rw [if_neg (show ¬ (ofF e.x.f0 = 2 ∧ 32 ≤ e.d) from HNB.out), if_neg (by rw [hm]; simp; omega)]⟩
          clear hc
          gi_wp2_with (first | (refine ⟨trivial, ?_⟩; (try refine ⟨(fun h => by cases h), ?_⟩); gi_at_call 40; refine (CallsIn.inRound l (callsIn_wide.2 (of_c _ _))).mono ?_; rintro ee w' ⟨rfl, ⟨⟨m1, rfl⟩⟩⟩) | (refine ⟨trivial, ?_⟩; (try refine ⟨(fun h => by cases h), ?_⟩); gi_at_call 41; refine (CallsIn.inRound l (callsIn_wide.2 (may_at HX.out (pw_below_drewN HB2.out _)))).mono ?_; rintro ee w' ⟨rfl, ⟨⟨m2, rfl⟩⟩⟩))
          exact may_next HK.out HKP.out HR2.out HN2.out HB2.out ((SN.out _).2 HE.out)
  case done =>
    rintro D ys W hD hS ⟨⟨hr, hn, hs⟩, hB⟩ hK
    have hE := may_done hS hs
    have zr : W.cell? ⟨w.heap.size, 0, none⟩ = some (.int .i64 0) := blk_cell hr 0
    have fr : W.frozen? ⟨w.heap.size, 0, none⟩ = false := blk_frozen hr _
    have hr2 : (W.setCell ⟨w.heap.size, 0, none⟩ (.int .i64 0)).heap[w.heap.size]? = some (.cells #[.int .i64 0] 24 (0, 0)) := blk_set hr 0 (.int .i64 0)
    have hK2 := (KeepsOthers.setCell W ⟨w.heap.size, 0, none⟩ (.int .i64 0)).same D _ hK rfl
    have hfin := may_fin hr2 hK2 (by rw [hsz] at hD; omega) (hB.setCell (p := ⟨w.heap.size, 0, none⟩) (Nat.le_refl _) (.int .i64 0))
    have HF := Aside0.mk hfin
    have HD := Aside0.mk hK2
    have HE := Aside0.mk hE
    clear hr hn hs hB hr2 hK2 hfin hE k0 k1 k2 hB0
    gi_wp2
    refine ⟨by simp, .inl ⟨_, _, rfl, run_takeDeferred HD.out, ?_⟩⟩
    exact ⟨.int .i64 0, by simp [results, Try.f27, go_sem, HF.out.1], by rw [HE.out], HF.out.2⟩
  case stop =>
    rintro D cd p W hD hS ⟨⟨rfl, hne, hr⟩, hB⟩ hK
    have hE := may_stop hS hne
    have hfin := may_fin hr hK (by rw [hsz] at hD; omega) hB
    have HF := Aside0.mk hfin
    have HD := Aside0.mk hK
    have HE := Aside0.mk hE
    clear hr hB hfin hE k0 k1 k2 hB0
    gi_wp2
    refine ⟨by simp, .inl ⟨_, _, rfl, run_takeDeferred HD.out, ?_⟩⟩
    exact ⟨.int .i64 (scanE stepE 0 (p.map key)), by simp [results, Try.f27, go_sem, HF.out.1], by rw [HE.out], HF.out.2⟩
end Go.Proofs.Ytbekfmeaeaghpaa.EInstr
namespace Go.Proofs.Ytbekfmeaeaghpaa.EInstr
open Go Go.RowKit Go.Proofs.Ytbekfmeaeaghpaa.F Go.Proofs.YtbekfmeaeaghpaaW.Hand Go.Proofs.YtbekfmeaeaghpaaW.PrintWords Go.Proofs.YtbekfmeaeaghpaaW.PrintLast Go.Proofs.YtbekfmeaeaghpaaW.PrintMore
attribute [local go_sem] Oper.semAt_some
set_option linter.unusedVariables false
set_option linter.unusedSimpArgs false
def countF (is : List S44) : Nat := ((pre 0 is).take 8193).length
def ICnt (w : World) (pre : List (ElS w)) (W : World) : Prop := W.heap[w.heap.size]? = some (.cells #[.int .i64 (pre.length : Int)] 3 (0, 0)) ∧ Below w.heap.size w W
theorem icnt_own (w : World) {B : Nat} (hB : w.heap.size < B) : OwnC B (ICnt w) := fun s W W' row hs hg hr =>
  ⟨(hg.block _ (blk_lt hs.1) (fun e => by have := hr _ e.symm; omega)).trans hs.1, hs.2.grown hg hs.2.size (fun k e => by have := hr k e; omega)⟩
set_option maxRecDepth 100000 in
set_option maxHeartbeats 4000000 in
theorem count_calls (w : World) (is : List S44) (A : Option Addr) (c : Nat) (hA : k44.C w A is.length is) (hc : is.length ≤ c) :
    Calls Try.prog 17 #[.slice A is.length c] w fun e w' => e = .returned (.int .i64 (countF is)) ∧ Below w.heap.size w w' := by
  refine (callsIn_wide (n := 3)).1 ?_
  refine callsIn_of_wp_marks Try.func17 rfl trivial ?_ rfl
  simp only [Try.ntmps17, List.size_toArray, List.length_cons, List.length_nil, Nat.reduceAdd, Nat.reduceSub, Array.replicate_succ, Array.replicate_zero, List.push_toArray, List.append_toArray, List.nil_append, List.cons_append]
  gi_wp2_with (refine ⟨trivial, ?_⟩; gi_at_call 33; refine (each_in 2 _ A is.length c rfl _).mono ?_; rintro e w' ⟨rfl, rfl⟩)
  have k0 : ((w.alloc (.cells #[.int .i64 0] 3)).alloc (.cells #[.slice A is.length c] 22)).heap[w.heap.size]? = some (.cells #[.int .i64 0] 3 (0, 0)) := blk_below (blk_new w _) (below_alloc (Below.refl _ _) _)
  have k2 : ((w.alloc (.cells #[.int .i64 0] 3)).alloc (.cells #[.slice A is.length c] 22)).cell? ⟨w.heap.size + 1, 0, none⟩ = some (.slice A is.length c) := by
    have := blk_cell (blk_new (w.alloc (.cells #[.int .i64 0] 3)) (.cells #[.slice A is.length c] 22)) 0
    rw [World.size_alloc] at this
    exact this
  have hB0 : Below w.heap.size w ((w.alloc (.cells #[.int .i64 0] 3)).alloc (.cells #[.slice A is.length c] 22)) := ((Below.refl _ w).alloc (by simp <;> omega) _).alloc (by simp <;> omega) _
  have hsz : ((w.alloc (.cells #[.int .i64 0] 3)).alloc (.cells #[.slice A is.length c] 22)).heap.size = w.heap.size + 2 := by simp [World.size_alloc]
  refine range_own rfl (by omega) (gf := 48) (lb := #[.pointer (some ⟨w.heap.size + 1, 0, none⟩)]) rfl trivial (enters_of Try.func48 (by kernel_rfl) rfl)
    (each_stops 2 w.heap.size (fun k => k = w.heap.size) w _ (w.heap.size + 1) is A c rfl hB0 (by rw [hsz]; omega) k2 hA hc (by rw [hsz]; intro k hk; omega)) (fun h k => kpC_t h k) (kpC_b (by rw [hsz]; omega)) (Below.refl _ _) (fun _ => rfl)
    (ICnt w) (fun _ _ _ => False) (icnt_own w (by rw [hsz]; omega)) (fun _ _ _ _ _ h _ _ => h) ⟨k0, hB0⟩
    (fun x => { tmps := #[.slice A is.length c, undef, .int .i64 0, .pointer (some ⟨w.heap.size, 0, none⟩), .slice A is.length c, .func (.func 48) #[] #[.pointer (some ⟨w.heap.size + 1, 0, none⟩)], .int .i64 (x.1.d : Int), .pointer (some x.1.ad), undef, undef, undef], defers := [] }) ?assign ?body ?done ?stop
  case assign =>
    intro l x W Kc hKc
    gi_wp2
    simpa [encE] using hKc
  case body =>
    rintro l pre0 x W hl ⟨hr, hB⟩ hpl
    have zn : W.cell? ⟨w.heap.size, 0, none⟩ = some (.int .i64 (pre0.length : Int)) := blk_cell hr 0
    have fn : W.frozen? ⟨w.heap.size, 0, none⟩ = false := blk_frozen hr _
    have w1 : wrap64 ((pre0.length : Int) + 1) = (pre0.length : Int) + 1 := by unfold wrap64; omega
    have HR := Aside0.mk hr
    have HBB := Aside0.mk hB
    clear hr hB k0 k2 hB0
    gi_wp2
    refine ⟨KeepsOthers.setCell _ _ _, kpC_set (by simp) rfl, ?_, HBB.out.setCell (p := ⟨w.heap.size, 0, none⟩) (Nat.le_refl _) _⟩
    have := blk_set HR.out 0 (.int .i64 ((pre0.length : Int) + 1))
    rw [List.length_append]
    exact this
  case done =>
    rintro D ys W hD hS ⟨hr, hB⟩ hK
    have hl : (ys.length : Int) = countF is := by
      unfold countF
      rw [← hS, List.length_map]
    have zr : W.cell? ⟨w.heap.size, 0, none⟩ = some (.int .i64 (ys.length : Int)) := blk_cell hr 0
    have HD := Aside0.mk hK
    have HL := Aside0.mk hl
    have HF := Aside0.mk (show Below w.heap.size w (W.putObj D (.deferred none)) from hB.trans (belowK_b (w := w) (Nat.le_refl _) W D _ _ (by rw [hsz] at hD; omega) hK rfl rfl))
    clear hr hB hK hl k0 k2 hB0
    gi_wp2
    refine ⟨by simp, .inl ⟨_, _, rfl, run_takeDeferred HD.out, ?_⟩⟩
    exact ⟨.int .i64 (ys.length : Int), by simp [results, Try.f17, go_sem], by rw [HL.out], HF.out⟩
  case stop =>
    rintro D cd p W hD hS h hK
    exact h.elim
end Go.Proofs.Ytbekfmeaeaghpaa.EInstr
