/-
  Plain facts on values: which are equal, which may be. No program in sight.
-/
import Derived.Test.YtmofdpkddimmlaaFx2
import Derived.Test.YtmofdpkddimmlaaFx4
namespace Go.Proofs.Ytmofdpkddimmlaa.PureVals
open Go Go.RowKit Go.Proofs.Ytmofdpkddimmlaa.F Go.Proofs.YtmofdpkddimmlaaW.PrintWords Go.Proofs.YtmofdpkddimmlaaW.PrintLast
set_option linter.unusedSimpArgs false

theorem wrap64_succ (i n : Nat) (hi : i < n) (hn : n ≤ 9223372036854775807) : wrap64 ((i : Int) + 1) = ((i + 1 : Nat) : Int) := by unfold wrap64; omega
/-- A loop that asks p of each place and stops at the first no. -/
theorem all_loop {β : Type} {g : Nat → Int → Option β} {n : Nat} {p : Nat → Bool} {bad r : β} {q : Prop} [Decidable q] (hq : (∀ i, i < n → p i = true) ↔ q) (hend : Ev (fun k => g k (n : Int)) r)
    (hyes : ∀ i, i < n → p i = true → ∀ v, Ev (fun k => g k ((i + 1 : Nat) : Int)) v → Ev (fun k => g k (i : Int)) v)
    (hno : ∀ i, i < n → p i = false → Ev (fun k => g k (i : Int)) bad) :
    Ev (fun k => g k 0) (if q then r else bad) := by
  have main : ∀ d i, i + d = n → ((∀ j, i ≤ j → j < n → p j = true) → Ev (fun k => g k (i : Int)) r) ∧ ((¬ ∀ j, i ≤ j → j < n → p j = true) → Ev (fun k => g k (i : Int)) bad) := by
    intro d
    induction d with
    | zero =>
      intro i hi
      obtain rfl : i = n := by omega
      exact ⟨fun _ => hend, fun h => absurd (fun j h1 h2 => absurd h2 (by omega)) h⟩
    | succ d ih =>
      intro i hi
      cases hp : p i with
      | false =>
        refine ⟨fun h => ?_, fun _ => hno i (by omega) hp⟩
        have := h i (Nat.le_refl _) (by omega)
        rw [hp] at this; cases this
      | true =>
        have hi1 := ih (i + 1) (by omega)
        refine ⟨fun h => hyes i (by omega) hp _ (hi1.1 fun j a b => h j (by omega) b), fun h => hyes i (by omega) hp _ (hi1.2 fun h2 => h fun j a b => ?_)⟩
        rcases Nat.lt_or_ge i j with h3 | h3
        · exact h2 j h3 b
        · obtain rfl : j = i := by omega
          exact hp
  have h := main n 0 (by omega)
  by_cases hc : q
  · rw [if_pos hc]
    exact h.1 fun j _ hj => hq.2 hc j hj
  · rw [if_neg hc]
    exact h.2 fun h2 => hc (hq.1 fun i hi => h2 i (Nat.zero_le _) hi)
instance : DecidableEq S56 := fun a b => decidable_of_iff (a.f0 = b.f0 ∧ a.f1 = b.f1) ⟨fun h => by cases a; cases b; simp_all, fun h => by subst h; exact ⟨rfl, rfl⟩⟩
theorem lists_eq {α : Type} (d : α) (a b : List α) (h : a.length = b.length) : (∀ i, i < a.length → a.getD i d = b.getD i d) ↔ a = b := by
  constructor
  · intro hi
    refine List.ext_getElem h fun i h1 h2 => ?_
    have := hi i h1
    simpa [List.getD_eq_getElem?_getD, h1, h2] using this
  · rintro rfl i _
    rfl
def Small {α : Type} (l : List α) : Prop := l.length ≤ 9223372036854775807

theorem s56_ext (a b : S56) : ((!(a.f0 == b.f0)) || (!(a.f1 == b.f1))) = !(decide (a = b)) := by
  cases a; cases b
  simp only [S56.mk.injEq, Bool.decide_and]
  rename_i a b c d
  by_cases h1 : a = c <;> by_cases h2 : b = d <;> simp [h1, h2]

theorem sameVals_ev (a b : List S56) (ha : Small a) : Ev (fun k => peloruslaw0_SameVals.f k a b) (decide (a = b)) := by
  unfold peloruslaw0_SameVals.f
  by_cases h : a.length = b.length
  · simp only [if_pos (show (a.length : Int) = b.length by omega)]
    have := all_loop (q := a = b) (by simp only [decide_eq_true_eq, ← lists_eq z56 a b h]; simp [rd_T56]) (g := fun k i => peloruslaw0_SameVals.l0 k a b i) (n := a.length) (p := fun i => decide (rd_T56 a i = rd_T56 b i)) (bad := false) (r := true)
      (Ev.step (f := fun _ => some true) (fun k => by simp [peloruslaw0_SameVals.l0]) (Ev.now true))
      (fun i hi hp v hv => Ev.step (f := fun k => peloruslaw0_SameVals.l0 k a b ((i + 1 : Nat) : Int)) (fun k => by
        rw [peloruslaw0_SameVals.l0, s56_ext, hp, wrap64_succ i _ hi ha, if_pos (by omega), if_pos (by omega), if_pos (by omega)]; simp) hv)
      (fun i hi hp => Ev.step (f := fun _ => some false) (fun k => by
        rw [peloruslaw0_SameVals.l0, s56_ext, hp, if_pos (by omega), if_pos (by omega), if_pos (by omega)]; simp) (Ev.now false))
    have e : (if a = b then true else false) = decide (a = b) := by by_cases h : a = b <;> simp [h]
    rw [e] at this
    exact this
  · simp only [if_neg (show ¬ (a.length : Int) = b.length by omega)]
    rw [decide_eq_false (fun e => h (by rw [e]))]
    exact Ev.now false
def mayV (x y : Int) : Bool := if x = 127 ∨ x = 125 then decide (0 ≤ y ∧ y < 4294967296) else decide (x = 126 ∨ x = 124)
theorem may_ev (x y : Int) : Ev (fun k => apply_May.f k x y) (mayV x y) := by
  have h : ∀ b : Bool, b = decide (x = 127 ∨ x = 125) → Ev (fun k => apply_May.j0 k x b x y) (mayV x y) := by
    intro b hb
    refine Ev.step (f := fun _ => some (mayV x y)) (fun k => ?_) (Ev.now _)
    rw [apply_May.j0]
    subst hb
    unfold mayV
    by_cases h1 : x = 127 ∨ x = 125
    · simp only [h1, decide_true, if_true]
      by_cases h2 : 0 ≤ y <;> simp [h2]
    · simp only [h1, decide_false, if_false]
      by_cases h2 : x = 126 <;> by_cases h3 : x = 124 <;> simp [h2, h3]
  unfold apply_May.f
  by_cases h1 : x = 127
  · simp only [if_pos h1]
    exact h _ (by simp [h1])
  · simp only [if_neg h1]
    exact h _ (by by_cases h2 : x = 125 <;> simp [h1, h2])
theorem valMay_eq (x y : Int) : pelorusref4_ValMay.f x y = some (mayV x y) := by
  unfold pelorusref4_ValMay.f pelorusref4_TypeMay.f mayV
  by_cases a : x = 127
  · subst a; by_cases h2 : 0 ≤ y <;> simp [h2] <;> omega
  by_cases b : x = 125
  · subst b; by_cases h2 : 0 ≤ y <;> simp [h2] <;> omega
  by_cases c : x = 126
  · subst c; simp
  by_cases d : x = 124
  · subst d; simp
  by_cases h1 : x ≥ 124
  · have h2 : ¬ x ≤ 127 := by omega
    simp [a, b, c, d, h1, h2]
  · simp [a, b, c, d, h1]
def fitV (rs : List Int) (vs : List S56) : Bool := decide (rs.length = vs.length ∧ ∀ i, i < vs.length → (rd_T56 vs i).f0 = rd rs i ∧ mayV (rd_T56 vs i).f0 (rd_T56 vs i).f1 = true)
theorem fit_ev (rs : List Int) (vs : List S56) (hv : Small vs) : Ev (fun k => pelorusref8_Fit.f k rs vs) (fitV rs vs) := by
  unfold pelorusref8_Fit.f fitV
  by_cases h : rs.length = vs.length
  · simp only [if_pos (show (rs.length : Int) = vs.length by omega), h, true_and]
    have := all_loop (q := ∀ i, i < vs.length → (rd_T56 vs i).f0 = rd rs i ∧ mayV (rd_T56 vs i).f0 (rd_T56 vs i).f1 = true) (p := fun i => decide ((rd_T56 vs i).f0 = rd rs i ∧ mayV (rd_T56 vs i).f0 (rd_T56 vs i).f1 = true)) (by simp) (g := fun k i => pelorusref8_Fit.l0 k rs vs i) (n := vs.length) (bad := false) (r := true)
      (Ev.step (f := fun _ => some true) (fun k => by simp [pelorusref8_Fit.l0]) (Ev.now true))
      (fun i hi hp v hv' => Ev.step (f := fun k => pelorusref8_Fit.l0 k rs vs ((i + 1 : Nat) : Int)) (fun k => by
        have hp' := of_decide_eq_true hp
        rw [pelorusref8_Fit.l0, wrap64_succ i _ hi hv, if_pos (by omega), if_pos (by omega), if_pos (by omega), if_pos hp'.1, valMay_eq]; simp [hp'.2]) hv')
      (fun i hi hp => Ev.step (f := fun _ => some false) (fun k => by
        have hp' := of_decide_eq_false hp
        rw [pelorusref8_Fit.l0, if_pos (by omega), if_pos (by omega), if_pos (by omega), valMay_eq]
        by_cases h1 : (rd_T56 vs i).f0 = rd rs i
        · rw [if_pos h1]
          have h2 : mayV (rd_T56 vs i).f0 (rd_T56 vs i).f1 = false := by
            cases h3 : mayV (rd_T56 vs i).f0 (rd_T56 vs i).f1
            · rfl
            · exact absurd ⟨h1, h3⟩ hp'
          simp [h2]
        · rw [if_neg h1]) (Ev.now false))
    simpa using this
  · simp only [if_neg (show ¬ (rs.length : Int) = vs.length by omega), h, false_and, decide_false]
    exact Ev.now false
theorem fits_ev (rs : List Int) (vs : List S56) (hr : Small rs) : Ev (fun k => trace_fits.f k rs vs) (fitV rs vs) := by
  unfold trace_fits.f
  refine Ev.bind (a := fitV rs vs) ?_ (Ev.now _)
  unfold api_Val.f fitV
  by_cases h : rs.length = vs.length
  · simp only [if_pos (show (rs.length : Int) = vs.length by omega), h, true_and]
    have one : ∀ i : Nat, Ev (fun k => trace_fits_1.f k (rd rs i) (rd_T56 vs i).f0 (rd_T56 vs i).f1) (decide ((rd_T56 vs i).f0 = rd rs i ∧ mayV (rd_T56 vs i).f0 (rd_T56 vs i).f1 = true)) := by
      intro i
      unfold trace_fits_1.f
      by_cases h1 : (rd_T56 vs i).f0 = rd rs i
      · simp only [if_pos h1]
        refine Ev.bind (may_ev _ _) ?_
        simp only [h1, true_and, Bool.decide_eq_true]
        exact Ev.now _
      · simp only [if_neg h1, h1, false_and, decide_false]
        exact Ev.now _
    have := all_loop (q := ∀ i, i < vs.length → (rd_T56 vs i).f0 = rd rs i ∧ mayV (rd_T56 vs i).f0 (rd_T56 vs i).f1 = true) (p := fun i => decide ((rd_T56 vs i).f0 = rd rs i ∧ mayV (rd_T56 vs i).f0 (rd_T56 vs i).f1 = true)) (by simp) (g := fun k i => api_Val.l0 k vs rs vs.length i) (n := vs.length) (bad := false) (r := true)
      (Ev.step (f := fun _ => some true) (fun k => by simp [api_Val.l0]) (Ev.now true))
      (fun i hi hp v hv' => Ev.step (f := fun k => (trace_fits_1.f k (rd rs i) (rd_T56 vs i).f0 (rd_T56 vs i).f1).bind fun t148 => (if t148 = true then (api_Val.l0 k vs rs vs.length ((i + 1 : Nat) : Int)) else (some false))) (fun k => by
        rw [api_Val.l0, wrap64_succ i _ hi (h ▸ hr), if_pos (by omega), if_pos (by omega), if_pos (by omega), if_pos (by omega)]) (Ev.bind (one i) (by rw [hp]; simpa using hv')))
      (fun i hi hp => Ev.step (f := fun k => (trace_fits_1.f k (rd rs i) (rd_T56 vs i).f0 (rd_T56 vs i).f1).bind fun t148 => (if t148 = true then (api_Val.l0 k vs rs vs.length ((i + 1 : Nat) : Int)) else (some false))) (fun k => by
        rw [api_Val.l0, wrap64_succ i _ hi (h ▸ hr), if_pos (by omega), if_pos (by omega), if_pos (by omega), if_pos (by omega)]) (Ev.bind (one i) (by rw [hp]; simpa using Ev.now false)))
    simpa using this
  · simp only [if_neg (show ¬ (rs.length : Int) = vs.length by omega), h, false_and, decide_false]
    exact Ev.now false
end Go.Proofs.Ytmofdpkddimmlaa.PureVals
