/-
  Lebs: any number as bytes, any bytes as a number: package leb answers what the document's answer does. Conditions: none beyond the statement's own reach.
-/
import Derived.Test.YtflejniglhjbfaaLebGetS
import Derived.Test.YtflejniglhjbfaaFx4
namespace Go.Proofs.Ytflejniglhjbfaa.Pure
open Go.RowKit Go.Proofs.Ytflejniglhjbfaa.F Go.Proofs.YtflejniglhjbfaaW.PrintWords Go.Proofs.YtflejniglhjbfaaW.PrintLast Go.Proofs.Ytflejniglhjbfaa.LebMath Go.Proofs.Ytflejniglhjbfaa.LebFns Go.Proofs.Ytflejniglhjbfaa.LebGets Go.Proofs.Ytflejniglhjbfaa.LebGetS

theorem awake_ev : Ev (fun k => peloruslaw12_awake.f k) true := Ev.of peloruslaw12_awake.mono (k := 20) (by decide +kernel)
theorem wf_range {x : Int} (h : (Lit.int .i64 x).wf = true) : -9223372036854775808 ≤ x ∧ x < 9223372036854775808 := by
  simp only [Lit.wf, IntKind.min, IntKind.max, IntKind.signed, IntKind.bits, Bool.and_eq_true, decide_eq_true_eq, if_true] at h
  omega
theorem Lebs : peloruslaw12_Lebs.Pure := by
  intro x s a bits hx hs _ _
  obtain ⟨hx0, hx1⟩ := wf_range hx
  refine Ev.rounds (g := fun k => peloruslaw12_Lebs.f k x s a bits) ?_
  unfold peloruslaw12_Lebs.f
  refine Ev.bind (get_ev s a bits (by omega)) (Ev.bind (LebGets.unleb_ev s a bits (by omega)) (Ev.bind (gets_ev s a bits (by omega)) (Ev.bind (LebGetS.unsleb_ev s a bits (by omega)) (Ev.bind (put_ev x) (Ev.bind (lebref_ev x) ?_)))))
  simp only [if_true, peloruslaw0_Num.f, Option.bind_some]
  refine Ev.bind (puts_ev x hx0 hx1) (Ev.bind (sleb_ev x hx0 hx1) ?_)
  simp only [if_true]
  exact Ev.bind awake_ev (Ev.now true)

end Go.Proofs.Ytflejniglhjbfaa.Pure
