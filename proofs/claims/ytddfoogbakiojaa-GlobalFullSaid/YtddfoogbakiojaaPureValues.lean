/-
  obs.Values and the document's Fit answer the same. No program in sight.
-/
import Derived.Test.YtddfoogbakiojaaPureObs
import Derived.Test.YtddfoogbakiojaaFx6
namespace Go.Proofs.Ytddfoogbakiojaa.PureObs
open Go Go.RowKit Go.Proofs.Ytddfoogbakiojaa.F Go.Proofs.YtddfoogbakiojaaW.PrintWords Go.Proofs.YtddfoogbakiojaaW.PrintLast
set_option linter.unusedSimpArgs false

def mayV (x y : Int) : Bool := if x = 127 ∨ x = 125 then decide (0 ≤ y ∧ y < 4294967296) else decide (x = 126 ∨ x = 124)
theorem may_ev (x y : Int) : Ev (fun k => apply_May.f k x y) (mayV x y) := by
  have h : ∀ b : Bool, b = decide (x = 127 ∨ x = 125) → Ev (fun k => apply_May.j0 k x b x y) (mayV x y) := by
    intro b hb
    refine Ev.step (f := fun _ => some (mayV x y)) (fun k => ?_) (Ev.now _)
    rw [apply_May.j0]
    subst hb
    unfold mayV
    by_cases h1 : x = 127 ∨ x = 125
    · simp only [h1, decide_true, if_true]
      by_cases h2 : 0 ≤ y <;> simp [h2]
    · simp only [h1, decide_false, if_false]
      by_cases h2 : x = 126 <;> by_cases h3 : x = 124 <;> simp [h2, h3]
  unfold apply_May.f
  by_cases h1 : x = 127
  · simp only [if_pos h1]
    exact h _ (by simp [h1])
  · simp only [if_neg h1]
    exact h _ (by by_cases h2 : x = 125 <;> simp [h1, h2])
theorem valMay_eq (x y : Int) : pelorusref4_ValMay.f x y = some (mayV x y) := by
  unfold pelorusref4_ValMay.f pelorusref4_TypeMay.f mayV
  by_cases a : x = 127
  · subst a; by_cases h2 : 0 ≤ y <;> simp [h2] <;> omega
  by_cases b : x = 125
  · subst b; by_cases h2 : 0 ≤ y <;> simp [h2] <;> omega
  by_cases c : x = 126
  · subst c; simp
  by_cases d : x = 124
  · subst d; simp
  by_cases h1 : x ≥ 124
  · have h2 : ¬ x ≤ 127 := by omega
    simp [a, b, c, d, h1, h2]
  · simp [a, b, c, d, h1]
def fitV (rs : List Int) (vs : List S29) : Bool := decide (rs.length = vs.length ∧ ∀ i, i < vs.length → (rd_T29 vs i).f0 = rd rs i ∧ mayV (rd_T29 vs i).f0 (rd_T29 vs i).f1 = true)
theorem fit_ev (rs : List Int) (vs : List S29) (hv : Small vs) : Ev (fun k => pelorusref8_Fit.f k rs vs) (fitV rs vs) := by
  unfold pelorusref8_Fit.f fitV
  by_cases h : rs.length = vs.length
  · simp only [if_pos (show (rs.length : Int) = vs.length by omega), h, true_and]
    have := all_loop (q := ∀ i, i < vs.length → (rd_T29 vs i).f0 = rd rs i ∧ mayV (rd_T29 vs i).f0 (rd_T29 vs i).f1 = true) (p := fun i => decide ((rd_T29 vs i).f0 = rd rs i ∧ mayV (rd_T29 vs i).f0 (rd_T29 vs i).f1 = true)) (by simp) (g := fun k i => pelorusref8_Fit.l0 k rs vs i) (n := vs.length) (bad := false) (r := true)
      (Ev.step (f := fun _ => some true) (fun k => by simp [pelorusref8_Fit.l0]) (Ev.now true))
      (fun i hi hp v hv' => Ev.step (f := fun k => pelorusref8_Fit.l0 k rs vs ((i + 1 : Nat) : Int)) (fun k => by
        have hp' := of_decide_eq_true hp
        rw [pelorusref8_Fit.l0, wrap64_succ i _ hi hv, if_pos (by omega), if_pos (by omega), if_pos (by omega), if_pos hp'.1, valMay_eq]; simp [hp'.2]) hv')
      (fun i hi hp => Ev.step (f := fun _ => some false) (fun k => by
        have hp' := of_decide_eq_false hp
        rw [pelorusref8_Fit.l0, if_pos (by omega), if_pos (by omega), if_pos (by omega), valMay_eq]
        by_cases h1 : (rd_T29 vs i).f0 = rd rs i
        · rw [if_pos h1]
          have h2 : mayV (rd_T29 vs i).f0 (rd_T29 vs i).f1 = false := by
            cases h3 : mayV (rd_T29 vs i).f0 (rd_T29 vs i).f1
            · rfl
            · exact absurd ⟨h1, h3⟩ hp'
          simp [h2]
        · rw [if_neg h1]) (Ev.now false))
    simpa using this
  · simp only [if_neg (show ¬ (rs.length : Int) = vs.length by omega), h, false_and, decide_false]
    exact Ev.now false
theorem values_ev (ps rs : List Int) (vs : List S29) (hr : Small rs) : Ev (fun k => obs_Values.f k ps rs vs) (fitV rs vs) := by
  unfold obs_Values.f
  refine Ev.bind (a := fitV rs vs) ?_ (Ev.now _)
  unfold api_Val_54.f fitV
  by_cases h : rs.length = vs.length
  · simp only [if_pos (show (rs.length : Int) = vs.length by omega), h, true_and]
    have one : ∀ i : Nat, Ev (fun k => obs_Values_1.f k (rd rs i) (rd_T29 vs i).f0 (rd_T29 vs i).f1) (decide ((rd_T29 vs i).f0 = rd rs i ∧ mayV (rd_T29 vs i).f0 (rd_T29 vs i).f1 = true)) := by
      intro i
      unfold obs_Values_1.f
      by_cases h1 : (rd_T29 vs i).f0 = rd rs i
      · simp only [if_pos h1]
        refine Ev.bind (may_ev _ _) ?_
        simp only [h1, true_and, Bool.decide_eq_true]
        exact Ev.now _
      · simp only [if_neg h1, h1, false_and, decide_false]
        exact Ev.now _
    have := all_loop (q := ∀ i, i < vs.length → (rd_T29 vs i).f0 = rd rs i ∧ mayV (rd_T29 vs i).f0 (rd_T29 vs i).f1 = true) (p := fun i => decide ((rd_T29 vs i).f0 = rd rs i ∧ mayV (rd_T29 vs i).f0 (rd_T29 vs i).f1 = true)) (by simp) (g := fun k i => api_Val_54.l0 k vs rs vs.length i) (n := vs.length) (bad := false) (r := true)
      (Ev.step (f := fun _ => some true) (fun k => by simp [api_Val_54.l0]) (Ev.now true))
      (fun i hi hp v hv' => Ev.step (f := fun k => (obs_Values_1.f k (rd rs i) (rd_T29 vs i).f0 (rd_T29 vs i).f1).bind fun t148 => (if t148 = true then (api_Val_54.l0 k vs rs vs.length ((i + 1 : Nat) : Int)) else (some false))) (fun k => by
        rw [api_Val_54.l0, wrap64_succ i _ hi (h ▸ hr), if_pos (by omega), if_pos (by omega), if_pos (by omega), if_pos (by omega)]) (Ev.bind (one i) (by rw [hp]; simpa using hv')))
      (fun i hi hp => Ev.step (f := fun k => (obs_Values_1.f k (rd rs i) (rd_T29 vs i).f0 (rd_T29 vs i).f1).bind fun t148 => (if t148 = true then (api_Val_54.l0 k vs rs vs.length ((i + 1 : Nat) : Int)) else (some false))) (fun k => by
        rw [api_Val_54.l0, wrap64_succ i _ hi (h ▸ hr), if_pos (by omega), if_pos (by omega), if_pos (by omega), if_pos (by omega)]) (Ev.bind (one i) (by rw [hp]; simpa using Ev.now false)))
    simpa using this
  · simp only [if_neg (show ¬ (rs.length : Int) = vs.length by omega), h, false_and, decide_false]
    exact Ev.now false
end Go.Proofs.Ytddfoogbakiojaa.PureObs
