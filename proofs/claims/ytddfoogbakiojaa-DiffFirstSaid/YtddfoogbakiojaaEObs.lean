/-
  Observations as one kind of value; obs.Diff and the laws' own Unlike as rules over it, and what is awake.
-/
import Derived.Test.YtddfoogbakiojaaPureObs
namespace Go.Proofs.Ytddfoogbakiojaa.EObs
open Go Go.RowKit Go.Proofs.Ytddfoogbakiojaa.F Go.Proofs.Ytddfoogbakiojaa.PureObs Go.Proofs.YtddfoogbakiojaaW.PrintWords Go.Proofs.YtddfoogbakiojaaW.PrintLast Go.Proofs.YtddfoogbakiojaaW.PrintMore
set_option linter.unusedVariables false
set_option linter.unusedSimpArgs false

def kObs : Kd Obs := Kd.iso (Kd.pair (Kd.int .i64) (Kd.pair k53 (Kd.pair (Kd.slice 53 k53) (Kd.pair Kd.string (Kd.pair (Kd.slice 29 k29) (Kd.pair (Kd.slice 3 (Kd.int .i64)) (Kd.slice 68 k68))))))) (fun a : Obs => (a.e, a.o, a.outs, a.m, a.g, a.t, a.tr))
theorem kObs_open {w : World} {a : Obs} {cs : List Value} (h : kObs.K w a cs) : ∃ A3 c3 A4 c4 A6 c6 A7 c7 A8 c8, cs = [.int .i64 a.e, .int .i64 a.o.f0, .int .i64 a.o.f1, .slice A3 a.o.f2.length c3, .slice A4 a.outs.length c4, .string a.m, .slice A6 a.g.length c6, .slice A7 a.t.length c7, .slice A8 a.tr.length c8] ∧
    (a.o.f2.length ≤ c3 ∧ a.outs.length ≤ c4 ∧ a.g.length ≤ c6 ∧ a.t.length ≤ c7 ∧ a.tr.length ≤ c8) ∧ k29.C w A3 a.o.f2.length a.o.f2 ∧ k53.C w A4 a.outs.length a.outs ∧ k29.C w A6 a.g.length a.g ∧ (Kd.int .i64).C w A7 a.t.length a.t ∧ k68.C w A8 a.tr.length a.tr := by
  obtain ⟨c0, r0, rfl, h0, c1, r1, rfl, h1, c2, r2, rfl, h2, c3, r3, rfl, h3, c4, r4, rfl, h4, c5, r5, rfl, h5, h6⟩ := h
  obtain ⟨A3, n3, rfl, l3, g3⟩ := k53_open h1
  obtain ⟨A4, n4, rfl, l4, g4⟩ := h2
  obtain ⟨A6, n6, rfl, l6, g6⟩ := h4
  obtain ⟨A7, n7, rfl, l7, g7⟩ := h5
  obtain ⟨A8, n8, rfl, l8, g8⟩ := h6
  obtain rfl := h0
  obtain rfl := h3
  exact ⟨A3, n3, A4, n4, A6, n6, A7, n7, A8, n8, rfl, ⟨l3, l4, l6, l7, l8⟩, g3, g4, g6, g7, g8⟩
theorem kObs_mk {w : World} (a : Obs) {A3 A4 A6 A7 A8 : Option Addr} {c3 c4 c6 c7 c8 : Nat} (l3 : a.o.f2.length ≤ c3) (l4 : a.outs.length ≤ c4) (l6 : a.g.length ≤ c6) (l7 : a.t.length ≤ c7) (l8 : a.tr.length ≤ c8)
    (g3 : k29.C w A3 a.o.f2.length a.o.f2) (g4 : k53.C w A4 a.outs.length a.outs) (g6 : k29.C w A6 a.g.length a.g) (g7 : (Kd.int .i64).C w A7 a.t.length a.t) (g8 : k68.C w A8 a.tr.length a.tr) :
    kObs.K w a [.int .i64 a.e, .int .i64 a.o.f0, .int .i64 a.o.f1, .slice A3 a.o.f2.length c3, .slice A4 a.outs.length c4, .string a.m, .slice A6 a.g.length c6, .slice A7 a.t.length c7, .slice A8 a.tr.length c8] :=
  ⟨[.int .i64 a.e], _, rfl, rfl, [.int .i64 a.o.f0, .int .i64 a.o.f1, .slice A3 a.o.f2.length c3], _, rfl, k53_mk w a.o l3 g3, [.slice A4 a.outs.length c4], _, rfl, ⟨_, _, rfl, l4, g4⟩, [.string a.m], _, rfl, rfl, [.slice A6 a.g.length c6], _, rfl, ⟨_, _, rfl, l6, g6⟩, [.slice A7 a.t.length c7], _, rfl, ⟨_, _, rfl, l7, g7⟩, ⟨_, _, rfl, l8, g8⟩⟩
theorem diff_calls {w : World} {a b : Obs} {ca cb : List Value} (ha : kObs.K w a ca) (hb : kObs.K w b cb) (hok : a.Ok) :
    Calls Try.prog 35 #[.agg ca.toArray, .agg cb.toArray] w fun e w' => e = .returned (.int .i64 (unl a b)) ∧ Below w.heap.size w w' := by
  obtain ⟨A3, c3, A4, c4, A6, c6, A7, c7, A8, c8, rfl, ⟨l3, l4, l6, l7, l8⟩, g3, g4, g6, g7, g8⟩ := kObs_open ha
  obtain ⟨B3, d3, B4, d4, B6, d6, B7, d7, B8, d8, rfl, ⟨m3, m4, m6, m7, m8⟩, e3, e4, e6, e7, e8⟩ := kObs_open hb
  obtain ⟨k, hk⟩ := (diff_ev a b hok).rounds
  exact obs_Diff.calls k _ _ _ _ _ _ _ _ _ _ _ _ _ _ _ _ _ _ _ _ _ _ _ _ _ _ _ _ _ _ _ _ _ _ _ _ _ _ _ w g3 l3 g4 l4 g6 l6 g7 l7 g8 l8 e3 m3 e4 m4 e6 m6 e7 m7 e8 m8 hk
theorem unlike_calls {w : World} {a b : Obs} {ca cb : List Value} (ha : kObs.K w a ca) (hb : kObs.K w b cb) (hok : a.Ok) :
    Calls Try.prog 36 #[.agg ca.toArray, .agg cb.toArray] w fun e w' => e = .returned (.int .i64 (unl a b)) ∧ Below w.heap.size w w' := by
  obtain ⟨A3, c3, A4, c4, A6, c6, A7, c7, A8, c8, rfl, ⟨l3, l4, l6, l7, l8⟩, g3, g4, g6, g7, g8⟩ := kObs_open ha
  obtain ⟨B3, d3, B4, d4, B6, d6, B7, d7, B8, d8, rfl, ⟨m3, m4, m6, m7, m8⟩, e3, e4, e6, e7, e8⟩ := kObs_open hb
  obtain ⟨k, hk⟩ := (unlike_ev a b hok).rounds
  exact peloruslaw0_Unlike.calls k _ _ _ _ _ _ _ _ _ _ _ _ _ _ _ _ _ _ _ _ _ _ _ _ _ _ _ _ _ _ _ _ _ _ _ _ _ _ _ w g3 l3 g4 l4 g6 l6 g7 l7 g8 l8 e3 m3 e4 m4 e6 m6 e7 m7 e8 m8 hk
theorem diff_calls_v {w : World} {a b : Obs} {ca cb : List Value} {v : Int} (hv : unl a b = v) (ha : kObs.K w a ca) (hb : kObs.K w b cb) (hok : a.Ok) :
    Calls Try.prog 35 #[.agg ca.toArray, .agg cb.toArray] w fun e w' => e = .returned (.int .i64 v) ∧ Below w.heap.size w w' := by
  subst hv
  exact diff_calls ha hb hok
theorem unlike_calls_v {w : World} {a b : Obs} {ca cb : List Value} {v : Int} (hv : unl a b = v) (ha : kObs.K w a ca) (hb : kObs.K w b cb) (hok : a.Ok) :
    Calls Try.prog 36 #[.agg ca.toArray, .agg cb.toArray] w fun e w' => e = .returned (.int .i64 v) ∧ Below w.heap.size w w' := by
  subst hv
  exact unlike_calls ha hb hok
theorem ok_of_K {w : World} {a : Obs} {cs : List Value} (h : kObs.K w a cs) : a.Ok := by
  obtain ⟨A3, c3, A4, c4, A6, c6, A7, c7, A8, c8, rfl, _, g3, g4, g6, g7, g8⟩ := kObs_open h
  refine ⟨Kd.C_max g3, Kd.C_max g4, fun x hx => ?_, Kd.C_max g6, Kd.C_max g7, Kd.C_max g8, fun x hx => ?_⟩
  · obtain ⟨i, hi⟩ := List.mem_iff_getElem?.1 hx
    have h1 : i < a.outs.length := by rcases Nat.lt_or_ge i a.outs.length with h | h; exact h; rw [List.getElem?_eq_none h] at hi; cases hi
    obtain ⟨ad, c, _, _, hK, _⟩ := Kd.C_get g4 z53 (i : Int) (by omega) (by omega)
    have hx : a.outs.getD ((i : Int).toNat) z53 = x := by simp [List.getD_eq_getElem?_getD, hi]
    rw [hx] at hK
    obtain ⟨_, _, _, _, hC⟩ := k53_open hK
    exact Kd.C_max hC
  · obtain ⟨i, hi⟩ := List.mem_iff_getElem?.1 hx
    have h1 : i < a.tr.length := by rcases Nat.lt_or_ge i a.tr.length with h | h; exact h; rw [List.getElem?_eq_none h] at hi; cases hi
    obtain ⟨ad, c, _, _, hK, _⟩ := Kd.C_get g8 z68 (i : Int) (by omega) (by omega)
    have hx : a.tr.getD ((i : Int).toNat) z68 = x := by simp [List.getD_eq_getElem?_getD, hi]
    rw [hx] at hK
    obtain ⟨_, _, _, _, hC⟩ := k68_open hK
    exact Kd.C_max hC
end Go.Proofs.Ytddfoogbakiojaa.EObs
