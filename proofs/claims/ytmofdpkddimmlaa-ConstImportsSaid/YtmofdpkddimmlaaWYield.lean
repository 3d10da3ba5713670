/-
  Steps of a region that draws its order and holds a call of yield, inside the wide fence.
-/
import Derived.Test.YtmofdpkddimmlaaWFr
import Derived.RangeFuncSeq
import Derived.RangeFuncBound
import Derived.RegionIn
set_option linter.unusedVariables false
namespace Go.Proofs.YtmofdpkddimmlaaW.Hand
open Go Go.RowKit Go.Proofs.YtmofdpkddimmlaaW.PrintWords Go.Proofs.YtmofdpkddimmlaaW.PrintLast Go.Proofs.YtmofdpkddimmlaaW.PrintMore
section
variable {P : Program} {ops : Array Oper} {Q : Exit → Act → World → Prop} {n : Nat}
def yreadyB (ops : Array Oper) (l l' : Array Bool) (i : Nat) : Bool := Region.ready .any ops l == [i] && (l.setIfInBounds i true == l')
def yanyB (ops : Array Oper) (l l' : Array Bool) (i : Nat) : Bool := Region.noSelect ops && Region.free .any ops l i && (Region.ready .any ops l).contains i && (l.setIfInBounds i true == l')
theorem y_start {id k : Nat} {a : Act} {w : World} (l : Array Bool) (hm : P.follows .mixedOrders = true) (hk : ops.size = k) (hl : Array.replicate k false = l) (h : wpAnyIn Fence.wide n P .any ops Q k l a w.drew) : (Code.region id ops true).wpIn Fence.wide n P Q a w := by
  subst hk
  subst hl
  exact wpIn_region_any hm h
theorem y_pure {i : Nat} {N : Option Tmp} {oi : Oper} {v : Value} {fuel : Nat} {l : Array Bool} {a : Act} {w : World} (l' : Array Bool) (hi : ops[i]? = some oi) (hN : oi.dst = N) (hc : yanyB ops l l' i = true)
    (hQ : ∀ c a w, Q (.panic c) (a.put oi.dst v) w → Q (.panic c) a w) (hy : Yields P ops oi v a) (hab : ∀ w, oi.about P w a.eval = none) {a' : Act} (ha : a.put N v = a')
    (h : wpAnyIn Fence.wide n P .any ops Q fuel l' a' w) : wpAnyIn Fence.wide n P .any ops Q (fuel + 1) l a w := by
  subst ha
  subst hN
  simp only [yanyB, Bool.and_eq_true, beq_iff_eq] at hc
  obtain ⟨⟨⟨h1, h2⟩, h3⟩, h6⟩ := hc
  subst h6
  exact wpAnyIn_take rfl hi h1 h2 h3 hQ ⟨hy, hab⟩ h
theorem y_load {i : Nat} {N : Option Tmp} {oi : Oper} {v : Value} {fuel : Nat} {l : Array Bool} {a : Act} {w : World} (l' : Array Bool) (hi : ops[i]? = some oi) (hN : oi.dst = N) (hc : yreadyB ops l l' i = true) (hw : Region.wanted oi (yielded ops a.tmps) = true)
    (hrun : (execOp a.eval oi).run P w = .ok (.value v) w) {a' : Act} (ha : a.put N v = a') (h : wpAnyIn Fence.wide n P .any ops Q fuel l' a' w) : wpAnyIn Fence.wide n P .any ops Q (fuel + 1) l a w := by
  subst ha
  subst hN
  simp only [yreadyB, Bool.and_eq_true, beq_iff_eq] at hc
  obtain ⟨h1, h2⟩ := hc
  subst h2
  refine wpAnyIn_ready h1 (by simp) (AllReadyIn.cons hi (fun K hK => ?_) AllReadyIn.nil)
  rw [if_pos hw]
  refine ⟨fun _ _ => trivial, ?_⟩
  show Oper.uponIn _ _ _ _ _ _ _ ((oi.semAt none a.eval).run P w)
  rw [Oper.semAt_none, hrun]
  exact hK _ _ h
/-- The call of yield. -/
theorem y_yield {i lp : Nat} {N : Option Tmp} {oi : Oper} {args : Array Value} {fuel m : Nat} {l : Array Bool} {a : Act} {w : World} {R : Ending → World → Prop} (l' : Array Bool) (hi : ops[i]? = some oi) (hN : oi.dst = N) (hc : yreadyB ops l l' i = true) (hw : Region.wanted oi (yielded ops a.tmps) = true)
    (hy : YieldAt Fence.wide m P lp args w R) (hrun : ∀ fn tmps assign body, (Instr.yield lp args).run P w = .ok (.round lp fn tmps assign body) w → (execOp a.eval oi).run P w = .ok (.round lp fn tmps assign body) w)
    (h : ∀ e w', R e w' → ∃ v, e = .returned v ∧ ∀ a', a.put N v = a' → wpAnyIn Fence.wide n P .any ops Q fuel l' a' w') : wpAnyIn Fence.wide n P .any ops Q (fuel + 1) l a w := by
  subst hN
  simp only [yreadyB, Bool.and_eq_true, beq_iff_eq] at hc
  obtain ⟨h1, h2⟩ := hc
  subst h2
  obtain ⟨fn, tmps, assign, body, hy1, hR⟩ := hy
  refine wpAnyIn_ready h1 (by simp) (AllReadyIn.cons hi (fun K hK => ?_) AllReadyIn.nil)
  rw [if_pos hw]
  refine ⟨fun _ _ => trivial, ?_⟩
  show Oper.uponIn _ _ _ _ _ _ _ ((oi.semAt none a.eval).run P w)
  rw [Oper.semAt_none, hrun _ _ _ _ hy1]
  refine ⟨(fun hh => by cases hh), hR.1, fun c cs _ => ?_⟩
  obtain ⟨e, w', hre, hs⟩ := hR.2 c cs (by intro d hd; cases hd)
  obtain ⟨v, rfl, h'⟩ := h e w' hre
  exact ⟨.returned v, w', hK _ _ (h' _ rfl), hs⟩
theorem y_norm {fuel : Nat} {l : Array Bool} {a a' : Act} {w : World} (ha : a = a') (h : wpAnyIn Fence.wide n P .any ops Q fuel l a' w) : wpAnyIn Fence.wide n P .any ops Q fuel l a w := by
  subst ha
  exact h
theorem y_done {fuel : Nat} {l : Array Bool} {a : Act} {w : World} (hr : Region.ready .any ops l = []) (h : Q .normal a w) : wpAnyIn Fence.wide n P .any ops Q fuel l a w := wpAnyIn_done hr h fuel
end
end Go.Proofs.YtmofdpkddimmlaaW.Hand
