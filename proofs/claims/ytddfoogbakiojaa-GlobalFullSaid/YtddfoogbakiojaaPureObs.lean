/-
  Plain facts on observations: what the equal-or-not functions of packages obs, slices and the laws answer. No program in sight.
-/
import Derived.Test.YtddfoogbakiojaaEDiff
import Derived.Test.YtddfoogbakiojaaFx4
namespace Go.Proofs.Ytddfoogbakiojaa.PureObs
open Go Go.RowKit Go.Proofs.Ytddfoogbakiojaa.F Go.Proofs.YtddfoogbakiojaaW.PrintWords Go.Proofs.YtddfoogbakiojaaW.PrintLast

theorem wrap64_succ (i n : Nat) (hi : i < n) (hn : n ≤ 9223372036854775807) : wrap64 ((i : Int) + 1) = ((i + 1 : Nat) : Int) := by unfold wrap64; omega
/-- A loop that asks p of each place and stops at the first no. -/
theorem all_loop {β : Type} {g : Nat → Int → Option β} {n : Nat} {p : Nat → Bool} {bad r : β} {q : Prop} [Decidable q] (hq : (∀ i, i < n → p i = true) ↔ q) (hend : Ev (fun k => g k (n : Int)) r)
    (hyes : ∀ i, i < n → p i = true → ∀ v, Ev (fun k => g k ((i + 1 : Nat) : Int)) v → Ev (fun k => g k (i : Int)) v)
    (hno : ∀ i, i < n → p i = false → Ev (fun k => g k (i : Int)) bad) :
    Ev (fun k => g k 0) (if q then r else bad) := by
  have main : ∀ d i, i + d = n → ((∀ j, i ≤ j → j < n → p j = true) → Ev (fun k => g k (i : Int)) r) ∧ ((¬ ∀ j, i ≤ j → j < n → p j = true) → Ev (fun k => g k (i : Int)) bad) := by
    intro d
    induction d with
    | zero =>
      intro i hi
      obtain rfl : i = n := by omega
      exact ⟨fun _ => hend, fun h => absurd (fun j h1 h2 => absurd h2 (by omega)) h⟩
    | succ d ih =>
      intro i hi
      cases hp : p i with
      | false =>
        refine ⟨fun h => ?_, fun _ => hno i (by omega) hp⟩
        have := h i (Nat.le_refl _) (by omega)
        rw [hp] at this; cases this
      | true =>
        have hi1 := ih (i + 1) (by omega)
        refine ⟨fun h => hyes i (by omega) hp _ (hi1.1 fun j a b => h j (by omega) b), fun h => hyes i (by omega) hp _ (hi1.2 fun h2 => h fun j a b => ?_)⟩
        rcases Nat.lt_or_ge i j with h3 | h3
        · exact h2 j h3 b
        · obtain rfl : j = i := by omega
          exact hp
  have h := main n 0 (by omega)
  by_cases hc : q
  · rw [if_pos hc]
    exact h.1 fun j _ hj => hq.2 hc j hj
  · rw [if_neg hc]
    exact h.2 fun h2 => hc (hq.1 fun i hi => h2 i (Nat.zero_le _) hi)
instance : DecidableEq S29 := fun a b => decidable_of_iff (a.f0 = b.f0 ∧ a.f1 = b.f1) ⟨fun h => by cases a; cases b; simp_all, fun h => by subst h; exact ⟨rfl, rfl⟩⟩
instance : DecidableEq S53 := fun a b => decidable_of_iff (a.f0 = b.f0 ∧ a.f1 = b.f1 ∧ a.f2 = b.f2) ⟨fun h => by cases a; cases b; simp_all, fun h => by subst h; exact ⟨rfl, rfl, rfl⟩⟩
instance : DecidableEq S68 := fun a b => decidable_of_iff (a.f0 = b.f0 ∧ a.f1 = b.f1) ⟨fun h => by cases a; cases b; simp_all, fun h => by subst h; exact ⟨rfl, rfl⟩⟩
theorem lists_eq {α : Type} (d : α) (a b : List α) (h : a.length = b.length) : (∀ i, i < a.length → a.getD i d = b.getD i d) ↔ a = b := by
  constructor
  · intro hi
    refine List.ext_getElem h fun i h1 h2 => ?_
    have := hi i h1
    simpa [List.getD_eq_getElem?_getD, h1, h2] using this
  · rintro rfl i _
    rfl
def Small {α : Type} (l : List α) : Prop := l.length ≤ 9223372036854775807

theorem s29_ext (a b : S29) : ((!(a.f0 == b.f0)) || (!(a.f1 == b.f1))) = !(decide (a = b)) := by
  cases a; cases b
  simp only [S29.mk.injEq, Bool.decide_and]
  rename_i a b c d
  by_cases h1 : a = c <;> by_cases h2 : b = d <;> simp [h1, h2]

theorem sameVals_ev (a b : List S29) (ha : Small a) : Ev (fun k => peloruslaw0_SameVals.f k a b) (decide (a = b)) := by
  unfold peloruslaw0_SameVals.f
  by_cases h : a.length = b.length
  · simp only [if_pos (show (a.length : Int) = b.length by omega)]
    have := all_loop (q := a = b) (by simp only [decide_eq_true_eq, ← lists_eq z29 a b h]; simp [rd_T29]) (g := fun k i => peloruslaw0_SameVals.l0 k a b i) (n := a.length) (p := fun i => decide (rd_T29 a i = rd_T29 b i)) (bad := false) (r := true)
      (Ev.step (f := fun _ => some true) (fun k => by simp [peloruslaw0_SameVals.l0]) (Ev.now true))
      (fun i hi hp v hv => Ev.step (f := fun k => peloruslaw0_SameVals.l0 k a b ((i + 1 : Nat) : Int)) (fun k => by
        rw [peloruslaw0_SameVals.l0, s29_ext, hp, wrap64_succ i _ hi ha, if_pos (by omega), if_pos (by omega), if_pos (by omega)]; simp) hv)
      (fun i hi hp => Ev.step (f := fun _ => some false) (fun k => by
        rw [peloruslaw0_SameVals.l0, s29_ext, hp, if_pos (by omega), if_pos (by omega), if_pos (by omega)]; simp) (Ev.now false))
    have e : (if a = b then true else false) = decide (a = b) := by by_cases h : a = b <;> simp [h]
    rw [e] at this
    exact this
  · simp only [if_neg (show ¬ (a.length : Int) = b.length by omega)]
    rw [decide_eq_false (fun e => h (by rw [e]))]
    exact Ev.now false
theorem equalVals_ev (a b : List S29) (ha : Small a) : Ev (fun k => api_Val_46.f k a b) (decide (a = b)) := by
  unfold api_Val_46.f
  by_cases h : a.length = b.length
  · simp only [if_pos (show (a.length : Int) = b.length by omega)]
    have := all_loop (q := a = b) (by simp only [decide_eq_true_eq, ← lists_eq z29 a b h]; simp [rd_T29]) (g := fun k i => api_Val_46.l0 k a b a.length i) (n := a.length) (p := fun i => decide (rd_T29 a i = rd_T29 b i)) (bad := false) (r := true)
      (Ev.step (f := fun _ => some true) (fun k => by simp [api_Val_46.l0]) (Ev.now true))
      (fun i hi hp v hv => Ev.step (f := fun k => api_Val_46.l0 k a b a.length ((i + 1 : Nat) : Int)) (fun k => by
        rw [api_Val_46.l0, s29_ext, hp, wrap64_succ i _ hi ha, if_pos (by omega), if_pos (by omega), if_pos (by omega), if_pos (by omega)]; simp) hv)
      (fun i hi hp => Ev.step (f := fun _ => some false) (fun k => by
        rw [api_Val_46.l0, s29_ext, hp, if_pos (by omega), if_pos (by omega), if_pos (by omega), if_pos (by omega)]; simp) (Ev.now false))
    have e : (if a = b then true else false) = decide (a = b) := by by_cases h : a = b <;> simp [h]
    rw [e] at this
    exact this
  · simp only [if_neg (show ¬ (a.length : Int) = b.length by omega)]
    rw [decide_eq_false (fun e => h (by rw [e]))]
    exact Ev.now false
theorem sameInts_ev (a b : List Int) (ha : Small a) : Ev (fun k => peloruslaw0_SameInts.f k a b) (decide (a = b)) := by
  unfold peloruslaw0_SameInts.f
  by_cases h : a.length = b.length
  · simp only [if_pos (show (a.length : Int) = b.length by omega)]
    have := all_loop (q := a = b) (by simp only [decide_eq_true_eq, ← lists_eq 0 a b h]; simp [rd]) (g := fun k i => peloruslaw0_SameInts.l0 k a b i) (n := a.length) (p := fun i => decide (rd a i = rd b i)) (bad := false) (r := true)
      (Ev.step (f := fun _ => some true) (fun k => by simp [peloruslaw0_SameInts.l0]) (Ev.now true))
      (fun i hi hp v hv => Ev.step (f := fun k => peloruslaw0_SameInts.l0 k a b ((i + 1 : Nat) : Int)) (fun k => by
        rw [peloruslaw0_SameInts.l0, wrap64_succ i _ hi ha, if_pos (by omega), if_pos (by omega), if_pos (by omega), if_pos (by simpa using hp)]) hv)
      (fun i hi hp => Ev.step (f := fun _ => some false) (fun k => by
        rw [peloruslaw0_SameInts.l0, if_pos (by omega), if_pos (by omega), if_pos (by omega), if_neg (by simpa using hp)]) (Ev.now false))
    have e : (if a = b then true else false) = decide (a = b) := by by_cases h : a = b <;> simp [h]
    rw [e] at this
    exact this
  · simp only [if_neg (show ¬ (a.length : Int) = b.length by omega)]
    rw [decide_eq_false (fun e => h (by rw [e]))]
    exact Ev.now false
theorem equalInts_ev (a b : List Int) (ha : Small a) : Ev (fun k => slices_Equal_int_int.f k a b) (decide (a = b)) := by
  unfold slices_Equal_int_int.f
  by_cases h : a.length = b.length
  · simp only [if_pos (show (a.length : Int) = b.length by omega)]
    have := all_loop (q := a = b) (by simp only [decide_eq_true_eq, ← lists_eq 0 a b h]; simp [rd]) (g := fun k i => slices_Equal_int_int.l0 k a b a.length i) (n := a.length) (p := fun i => decide (rd a i = rd b i)) (bad := false) (r := true)
      (Ev.step (f := fun _ => some true) (fun k => by simp [slices_Equal_int_int.l0]) (Ev.now true))
      (fun i hi hp v hv => Ev.step (f := fun k => slices_Equal_int_int.l0 k a b a.length ((i + 1 : Nat) : Int)) (fun k => by
        rw [slices_Equal_int_int.l0, wrap64_succ i _ hi ha, if_pos (by omega), if_pos (by omega), if_pos (by omega), if_pos (by omega), if_pos (by simpa using hp)]) hv)
      (fun i hi hp => Ev.step (f := fun _ => some false) (fun k => by
        rw [slices_Equal_int_int.l0, if_pos (by omega), if_pos (by omega), if_pos (by omega), if_pos (by omega), if_neg (by simpa using hp)]) (Ev.now false))
    have e : (if a = b then true else false) = decide (a = b) := by by_cases h : a = b <;> simp [h]
    rw [e] at this
    exact this
  · simp only [if_neg (show ¬ (a.length : Int) = b.length by omega)]
    rw [decide_eq_false (fun e => h (by rw [e]))]
    exact Ev.now false
theorem dec3 {a b c d : Int} {x y : List S29} : (decide ((⟨a, c, x⟩ : S53) = ⟨b, d, y⟩)) = (if a = b then if c = d then decide (x = y) else false else false) := by
  simp only [S53.mk.injEq]
  by_cases h1 : a = b <;> by_cases h2 : c = d <;> by_cases h3 : x = y <;> simp [h1, h2, h3]
theorem sameOutcome_ev (a b : S53) (ha : Small a.f2) : Ev (fun k => peloruslaw0_SameOutcome.f k a.f0 a.f1 a.f2 b.f0 b.f1 b.f2) (decide (a = b)) := by
  unfold peloruslaw0_SameOutcome.f
  cases a with | mk a0 a1 a2 =>
  cases b with | mk b0 b1 b2 =>
  rw [dec3]
  simp only
  by_cases h1 : a0 = b0
  · by_cases h2 : a1 = b1
    · simp only [if_pos h1, if_pos h2]
      exact Ev.bind (sameVals_ev a2 b2 ha) (Ev.now _)
    · simp only [if_pos h1, if_neg h2]
      exact Ev.now _
  · simp only [if_neg h1]
    exact Ev.now _
theorem outcome_ev (a b : S53) (ha : Small a.f2) : Ev (fun k => obs_outcome.f k a.f0 a.f1 a.f2 b.f0 b.f1 b.f2) (decide (a = b)) := by
  unfold obs_outcome.f
  cases a with | mk a0 a1 a2 =>
  cases b with | mk b0 b1 b2 =>
  rw [dec3]
  simp only
  by_cases h1 : a0 = b0
  · by_cases h2 : a1 = b1
    · simp only [if_pos h1, if_pos h2]
      exact Ev.bind (equalVals_ev a2 b2 ha) (Ev.now _)
    · simp only [if_pos h1, if_neg h2]
      exact Ev.now _
  · simp only [if_neg h1]
    exact Ev.now _
theorem dec2 {a b : Int} {x y : List S29} : (decide ((⟨a, x⟩ : S68) = ⟨b, y⟩)) = (if a = b then decide (x = y) else false) := by
  simp only [S68.mk.injEq]
  by_cases h1 : a = b <;> by_cases h3 : x = y <;> simp [h1, h3]
theorem heard_ev (a b : S68) (ha : Small a.f1) : Ev (fun k => obs_heard.f k a.f0 a.f1 b.f0 b.f1) (decide (a = b)) := by
  unfold obs_heard.f
  cases a with | mk a0 a2 =>
  cases b with | mk b0 b2 =>
  rw [dec2]
  simp only
  by_cases h1 : a0 = b0
  · simp only [if_pos h1]
    exact Ev.bind (equalVals_ev a2 b2 ha) (Ev.now _)
  · simp only [if_neg h1]
    exact Ev.now _
theorem small53 {l : List S53} (h : ∀ x ∈ l, Small x.f2) (i : Nat) (hi : i < l.length) : Small (rd_T53 l i).f2 := by
  have : rd_T53 l i = l[i] := by simp [rd_T53, List.getD_eq_getElem?_getD, hi]
  rw [this]; exact h _ (List.getElem_mem hi)
theorem small68 {l : List S68} (h : ∀ x ∈ l, Small x.f1) (i : Nat) (hi : i < l.length) : Small (rd_T68 l i).f1 := by
  have : rd_T68 l i = l[i] := by simp [rd_T68, List.getD_eq_getElem?_getD, hi]
  rw [this]; exact h _ (List.getElem_mem hi)
theorem outcomes_ev (a b : List S53) (ha : Small a) (hx : ∀ x ∈ a, Small x.f2) : Ev (fun k => api_Outcome.f k a b ()) (decide (a = b)) := by
  unfold api_Outcome.f
  by_cases h : a.length = b.length
  · simp only [if_pos (show (a.length : Int) = b.length by omega)]
    have := all_loop (q := a = b) (by simp only [decide_eq_true_eq, ← lists_eq z53 a b h]; simp [rd_T53]) (g := fun k i => api_Outcome.l0 k b a a.length i) (n := a.length) (p := fun i => decide (rd_T53 a i = rd_T53 b i)) (bad := false) (r := true)
      (Ev.step (f := fun _ => some true) (fun k => by simp [api_Outcome.l0]) (Ev.now true))
      (fun i hi hp v hv => Ev.step (f := fun k => (obs_outcome.f k ((rd_T53 a i).f0) ((rd_T53 a i).f1) ((rd_T53 a i).f2) ((rd_T53 b i).f0) ((rd_T53 b i).f1) ((rd_T53 b i).f2)).bind fun t110 => (if t110 = true then (api_Outcome.l0 k b a a.length ((i + 1 : Nat) : Int)) else (some false))) (fun k => by
        rw [api_Outcome.l0, wrap64_succ i _ hi ha, if_pos (by omega), if_pos (by omega), if_pos (by omega), if_pos (by omega)]) (Ev.bind (outcome_ev _ _ (small53 hx i hi)) (by rw [hp]; simpa using hv)))
      (fun i hi hp => Ev.step (f := fun k => (obs_outcome.f k ((rd_T53 a i).f0) ((rd_T53 a i).f1) ((rd_T53 a i).f2) ((rd_T53 b i).f0) ((rd_T53 b i).f1) ((rd_T53 b i).f2)).bind fun t110 => (if t110 = true then (api_Outcome.l0 k b a a.length ((i + 1 : Nat) : Int)) else (some false))) (fun k => by
        rw [api_Outcome.l0, wrap64_succ i _ hi ha, if_pos (by omega), if_pos (by omega), if_pos (by omega), if_pos (by omega)]) (Ev.bind (outcome_ev _ _ (small53 hx i hi)) (by rw [hp]; simpa using Ev.now false)))
    have e : (if a = b then true else false) = decide (a = b) := by by_cases h : a = b <;> simp [h]
    rw [e] at this
    exact this
  · simp only [if_neg (show ¬ (a.length : Int) = b.length by omega)]
    rw [decide_eq_false (fun e => h (by rw [e]))]
    exact Ev.now false
theorem heards_ev (a b : List S68) (ha : Small a) (hx : ∀ x ∈ a, Small x.f1) : Ev (fun k => api_Heard.f k a b ()) (decide (a = b)) := by
  unfold api_Heard.f
  by_cases h : a.length = b.length
  · simp only [if_pos (show (a.length : Int) = b.length by omega)]
    have := all_loop (q := a = b) (by simp only [decide_eq_true_eq, ← lists_eq z68 a b h]; simp [rd_T68]) (g := fun k i => api_Heard.l0 k b a a.length i) (n := a.length) (p := fun i => decide (rd_T68 a i = rd_T68 b i)) (bad := false) (r := true)
      (Ev.step (f := fun _ => some true) (fun k => by simp [api_Heard.l0]) (Ev.now true))
      (fun i hi hp v hv => Ev.step (f := fun k => (obs_heard.f k ((rd_T68 a i).f0) ((rd_T68 a i).f1) ((rd_T68 b i).f0) ((rd_T68 b i).f1)).bind fun t110 => (if t110 = true then (api_Heard.l0 k b a a.length ((i + 1 : Nat) : Int)) else (some false))) (fun k => by
        rw [api_Heard.l0, wrap64_succ i _ hi ha, if_pos (by omega), if_pos (by omega), if_pos (by omega), if_pos (by omega)]) (Ev.bind (heard_ev _ _ (small68 hx i hi)) (by rw [hp]; simpa using hv)))
      (fun i hi hp => Ev.step (f := fun k => (obs_heard.f k ((rd_T68 a i).f0) ((rd_T68 a i).f1) ((rd_T68 b i).f0) ((rd_T68 b i).f1)).bind fun t110 => (if t110 = true then (api_Heard.l0 k b a a.length ((i + 1 : Nat) : Int)) else (some false))) (fun k => by
        rw [api_Heard.l0, wrap64_succ i _ hi ha, if_pos (by omega), if_pos (by omega), if_pos (by omega), if_pos (by omega)]) (Ev.bind (heard_ev _ _ (small68 hx i hi)) (by rw [hp]; simpa using Ev.now false)))
    have e : (if a = b then true else false) = decide (a = b) := by by_cases h : a = b <;> simp [h]
    rw [e] at this
    exact this
  · simp only [if_neg (show ¬ (a.length : Int) = b.length by omega)]
    rw [decide_eq_false (fun e => h (by rw [e]))]
    exact Ev.now false
theorem index8_ev (b1 b2 b3 b4 b5 b6 b7 : Bool) : Ev (fun k => slices_Index_bool_bool.f k [true, b1, b2, b3, b4, b5, b6, b7] false) (if b1 then if b2 then if b3 then if b4 then if b5 then if b6 then if b7 then -1 else 7 else 6 else 5 else 4 else 3 else 2 else 1) := by
  have hm : ∀ l b k, LeO (slices_Index_bool_bool.f k l b) (slices_Index_bool_bool.f (k + 1) l b) := fun l b k => slices_Index_bool_bool.mono l b k
  refine Ev.of (hm _ _) (k := 9) ?_
  have : ∀ b1 b2 b3 b4 b5 b6 b7 : Bool, slices_Index_bool_bool.f 9 [true, b1, b2, b3, b4, b5, b6, b7] false = some (if b1 then if b2 then if b3 then if b4 then if b5 then if b6 then if b7 then -1 else 7 else 6 else 5 else 4 else 3 else 2 else 1) := by decide +kernel
  exact this b1 b2 b3 b4 b5 b6 b7
/-- An observation, as the functions take it. -/
structure Obs where
  e : Int
  o : S53
  outs : List S53
  m : ByteArray
  g : List S29
  t : List Int
  tr : List S68
structure Obs.Ok (a : Obs) : Prop where
  o : Small a.o.f2
  outs : Small a.outs
  outs' : ∀ x ∈ a.outs, Small x.f2
  g : Small a.g
  t : Small a.t
  tr : Small a.tr
  tr' : ∀ x ∈ a.tr, Small x.f1
def unl (a b : Obs) : Int := if a.e = b.e then if a.o = b.o then if a.outs = b.outs then if a.m.toList = b.m.toList then if a.g = b.g then if a.t = b.t then if a.tr = b.tr then 0 else 7 else 6 else 5 else 4 else 3 else 2 else 1
def diffF (k : Nat) (a b : Obs) : Option Int := obs_Diff.f k a.e a.o.f0 a.o.f1 a.o.f2 a.outs a.m a.g a.t a.tr b.e b.o.f0 b.o.f1 b.o.f2 b.outs b.m b.g b.t b.tr
def unlikeF (k : Nat) (a b : Obs) : Option Int := peloruslaw0_Unlike.f k a.e a.o.f0 a.o.f1 a.o.f2 a.outs a.m a.g a.t a.tr b.e b.o.f0 b.o.f1 b.o.f2 b.outs b.m b.g b.t b.tr
theorem unl_self (a : Obs) : unl a a = 0 := by simp [unl]
theorem diff_ev (a b : Obs) (ha : a.Ok) : Ev (fun k => diffF k a b) (unl a b) := by
  unfold diffF obs_Diff.f
  refine Ev.bind (outcome_ev a.o b.o ha.o) (Ev.bind (outcomes_ev a.outs b.outs ha.outs ha.outs') (Ev.bind (equalVals_ev a.g b.g ha.g) (Ev.bind (equalInts_ev a.t b.t ha.t) (Ev.bind (heards_ev a.tr b.tr ha.tr ha.tr') (Ev.bind (index8_ev _ _ _ _ _ _ _) ?_)))))
  have e : (some (mx 0 (if (a.e == b.e) = true then if decide (a.o = b.o) = true then if decide (a.outs = b.outs) = true then if (a.m.toList == b.m.toList) = true then if decide (a.g = b.g) = true then if decide (a.t = b.t) = true then if decide (a.tr = b.tr) = true then -1 else 7 else 6 else 5 else 4 else 3 else 2 else 1))) = some (unl a b) := by
    unfold unl
    simp only [beq_iff_eq, decide_eq_true_eq]
    congr 1
    by_cases h1 : a.e = b.e
    · by_cases h2 : a.o = b.o
      · by_cases h3 : a.outs = b.outs
        · by_cases h4 : a.m.toList = b.m.toList
          · by_cases h5 : a.g = b.g
            · by_cases h6 : a.t = b.t
              · by_cases h7 : a.tr = b.tr
                · simp only [if_pos h1, if_pos h2, if_pos h3, if_pos h4, if_pos h5, if_pos h6, if_pos h7]; decide
                · simp only [if_pos h1, if_pos h2, if_pos h3, if_pos h4, if_pos h5, if_pos h6, if_neg h7]; decide
              · simp only [if_pos h1, if_pos h2, if_pos h3, if_pos h4, if_pos h5, if_neg h6]; decide
            · simp only [if_pos h1, if_pos h2, if_pos h3, if_pos h4, if_neg h5]; decide
          · simp only [if_pos h1, if_pos h2, if_pos h3, if_neg h4]; decide
        · simp only [if_pos h1, if_pos h2, if_neg h3]; decide
      · simp only [if_pos h1, if_neg h2]; decide
    · simp only [if_neg h1]; decide
  exact Ev.congr (fun k => e) (Ev.now _)
theorem unlike1_ev (a b : Obs) (ha : a.Ok) (h : a.tr.length = b.tr.length) : Ev (fun k => peloruslaw0_Unlike.l1 k 0 a.e a.o.f0 a.o.f1 a.o.f2 a.outs a.m a.g a.t a.tr b.e b.o.f0 b.o.f1 b.o.f2 b.outs b.m b.g b.t b.tr) (if a.tr = b.tr then 0 else 7) := by
  have hl := ha.tr
  unfold Small at hl
  refine all_loop (q := a.tr = b.tr) (by simp only [decide_eq_true_eq, ← lists_eq z68 a.tr b.tr h]; simp [rd_T68]) (g := fun k i => peloruslaw0_Unlike.l1 k i a.e a.o.f0 a.o.f1 a.o.f2 a.outs a.m a.g a.t a.tr b.e b.o.f0 b.o.f1 b.o.f2 b.outs b.m b.g b.t b.tr) (n := a.tr.length) (p := fun i => decide (rd_T68 a.tr i = rd_T68 b.tr i)) (bad := 7) (r := 0)
    (Ev.step (f := fun _ => some 0) (fun k => by rw [peloruslaw0_Unlike.l1, if_neg (by omega)]) (Ev.now 0))
    (fun i hi hp v hv => Ev.step (f := fun k => if ((rd_T68 a.tr i).f0) = ((rd_T68 b.tr i).f0) then ((peloruslaw0_SameVals.f k ((rd_T68 a.tr i).f1) ((rd_T68 b.tr i).f1)).bind fun t141 => (if t141 = true then (peloruslaw0_Unlike.l1 k ((i + 1 : Nat) : Int) a.e a.o.f0 a.o.f1 a.o.f2 a.outs a.m a.g a.t a.tr b.e b.o.f0 b.o.f1 b.o.f2 b.outs b.m b.g b.t b.tr) else (some 7))) else (some 7)) (fun k => by
      rw [peloruslaw0_Unlike.l1, wrap64_succ i _ hi hl, if_pos (by omega), if_pos (by omega), if_pos (by omega)]) (by
      have hp' : rd_T68 a.tr i = rd_T68 b.tr i := by simpa using hp
      simp only [hp', if_true]
      refine Ev.bind (sameVals_ev _ _ (hp' ▸ small68 ha.tr' i hi)) ?_
      simpa using hv))
    (fun i hi hp => Ev.step (f := fun k => if ((rd_T68 a.tr i).f0) = ((rd_T68 b.tr i).f0) then ((peloruslaw0_SameVals.f k ((rd_T68 a.tr i).f1) ((rd_T68 b.tr i).f1)).bind fun t141 => (if t141 = true then (peloruslaw0_Unlike.l1 k ((i + 1 : Nat) : Int) a.e a.o.f0 a.o.f1 a.o.f2 a.outs a.m a.g a.t a.tr b.e b.o.f0 b.o.f1 b.o.f2 b.outs b.m b.g b.t b.tr) else (some 7))) else (some 7)) (fun k => by
      rw [peloruslaw0_Unlike.l1, wrap64_succ i _ hi hl, if_pos (by omega), if_pos (by omega), if_pos (by omega)]) (by
      have hp' : ¬ rd_T68 a.tr i = rd_T68 b.tr i := by simpa using hp
      by_cases h0 : (rd_T68 a.tr i).f0 = (rd_T68 b.tr i).f0
      · simp only [if_pos h0]
        refine Ev.bind (sameVals_ev _ _ (small68 ha.tr' i hi)) ?_
        have h1 : ¬ (rd_T68 a.tr i).f1 = (rd_T68 b.tr i).f1 := fun h1 => hp' (by
          generalize rd_T68 a.tr i = x at *
          generalize rd_T68 b.tr i = y at *
          cases x; cases y; simp_all)
        simp only [decide_eq_false h1]
        simpa using Ev.now 7
      · simp only [if_neg h0]
        exact Ev.now 7))
theorem unlike0_ev (a b : Obs) (ha : a.Ok) (h : a.outs.length = b.outs.length) : Ev (fun k => peloruslaw0_Unlike.l0 k 0 a.e a.o.f0 a.o.f1 a.o.f2 a.outs a.m a.g a.t a.tr b.e b.o.f0 b.o.f1 b.o.f2 b.outs b.m b.g b.t b.tr) (if a.outs = b.outs then (if a.m.toList = b.m.toList then if a.g = b.g then if a.t = b.t then if a.tr = b.tr then 0 else 7 else 6 else 5 else 4) else 3) := by
  have hl := ha.outs
  unfold Small at hl
  have hlast : Ev (fun k => if a.m.toList = b.m.toList then ((peloruslaw0_SameVals.f k a.g b.g).bind fun t135 => (if t135 = true then ((peloruslaw0_SameInts.f k a.t b.t).bind fun t136 => (if t136 = true then (if (a.tr.length : Int) = (b.tr.length : Int) then (peloruslaw0_Unlike.l1 k 0 a.e a.o.f0 a.o.f1 a.o.f2 a.outs a.m a.g a.t a.tr b.e b.o.f0 b.o.f1 b.o.f2 b.outs b.m b.g b.t b.tr) else (some 7)) else (some 6))) else (some 5))) else (some 4)) (if a.m.toList = b.m.toList then if a.g = b.g then if a.t = b.t then if a.tr = b.tr then (0 : Int) else 7 else 6 else 5 else 4) := by
    by_cases h4 : a.m.toList = b.m.toList
    · simp only [if_pos h4]
      refine Ev.bind (sameVals_ev a.g b.g ha.g) ?_
      by_cases h5 : a.g = b.g
      · simp only [decide_eq_true h5, if_pos h5, if_true]
        refine Ev.bind (sameInts_ev a.t b.t ha.t) ?_
        by_cases h6 : a.t = b.t
        · simp only [decide_eq_true h6, if_pos h6, if_true]
          by_cases h7 : a.tr.length = b.tr.length
          · simp only [if_pos (show (a.tr.length : Int) = b.tr.length by omega)]
            exact unlike1_ev a b ha h7
          · simp only [if_neg (show ¬ (a.tr.length : Int) = b.tr.length by omega)]
            rw [if_neg (fun e => h7 (by rw [e]))]
            exact Ev.now 7
        · simp only [decide_eq_false h6, if_neg h6]
          simpa using Ev.now 6
      · simp only [decide_eq_false h5, if_neg h5]
        simpa using Ev.now 5
    · simp only [if_neg h4]
      exact Ev.now 4
  refine all_loop (q := a.outs = b.outs) (by simp only [decide_eq_true_eq, ← lists_eq z53 a.outs b.outs h]; simp [rd_T53]) (g := fun k i => peloruslaw0_Unlike.l0 k i a.e a.o.f0 a.o.f1 a.o.f2 a.outs a.m a.g a.t a.tr b.e b.o.f0 b.o.f1 b.o.f2 b.outs b.m b.g b.t b.tr) (n := a.outs.length) (p := fun i => decide (rd_T53 a.outs i = rd_T53 b.outs i)) (bad := 3)
    (Ev.step (fun k => by rw [peloruslaw0_Unlike.l0, if_neg (by omega)]) hlast)
    (fun i hi hp v hv => Ev.step (f := fun k => (peloruslaw0_SameOutcome.f k ((rd_T53 a.outs i).f0) ((rd_T53 a.outs i).f1) ((rd_T53 a.outs i).f2) ((rd_T53 b.outs i).f0) ((rd_T53 b.outs i).f1) ((rd_T53 b.outs i).f2)).bind fun t134 => (if t134 = true then (peloruslaw0_Unlike.l0 k ((i + 1 : Nat) : Int) a.e a.o.f0 a.o.f1 a.o.f2 a.outs a.m a.g a.t a.tr b.e b.o.f0 b.o.f1 b.o.f2 b.outs b.m b.g b.t b.tr) else (some 3))) (fun k => by
      rw [peloruslaw0_Unlike.l0, wrap64_succ i _ hi hl, if_pos (by omega), if_pos (by omega), if_pos (by omega)]) (Ev.bind (sameOutcome_ev _ _ (small53 ha.outs' i hi)) (by rw [hp]; simpa using hv)))
    (fun i hi hp => Ev.step (f := fun k => (peloruslaw0_SameOutcome.f k ((rd_T53 a.outs i).f0) ((rd_T53 a.outs i).f1) ((rd_T53 a.outs i).f2) ((rd_T53 b.outs i).f0) ((rd_T53 b.outs i).f1) ((rd_T53 b.outs i).f2)).bind fun t134 => (if t134 = true then (peloruslaw0_Unlike.l0 k ((i + 1 : Nat) : Int) a.e a.o.f0 a.o.f1 a.o.f2 a.outs a.m a.g a.t a.tr b.e b.o.f0 b.o.f1 b.o.f2 b.outs b.m b.g b.t b.tr) else (some 3))) (fun k => by
      rw [peloruslaw0_Unlike.l0, wrap64_succ i _ hi hl, if_pos (by omega), if_pos (by omega), if_pos (by omega)]) (Ev.bind (sameOutcome_ev _ _ (small53 ha.outs' i hi)) (by rw [hp]; simpa using Ev.now 3)))
theorem unlike_ev (a b : Obs) (ha : a.Ok) : Ev (fun k => unlikeF k a b) (unl a b) := by
  unfold unlikeF peloruslaw0_Unlike.f unl
  by_cases h1 : a.e = b.e
  · simp only [if_pos h1]
    refine Ev.bind (sameOutcome_ev a.o b.o ha.o) ?_
    by_cases h2 : a.o = b.o
    · simp only [decide_eq_true h2, if_pos h2, if_true]
      by_cases h3 : a.outs.length = b.outs.length
      · simp only [if_pos (show (a.outs.length : Int) = b.outs.length by omega)]
        exact unlike0_ev a b ha h3
      · simp only [if_neg (show ¬ (a.outs.length : Int) = b.outs.length by omega)]
        rw [if_neg (fun e => h3 (by rw [e]))]
        exact Ev.now 3
    · simp only [decide_eq_false h2, if_neg h2]
      simpa using Ev.now 2
  · simp only [if_neg h1]
    exact Ev.now 1
end Go.Proofs.Ytddfoogbakiojaa.PureObs
