/-
  Package names: the walks of Put, Get, May, and of the law's awake.
-/
import Derived.Test.YtflejniglhjbfaaDoorENames
namespace Go.Proofs.YtflejniglhjbfaaDoor.ENames
open Go Go.RowKit Go.Lib Go.Proofs.YtflejniglhjbfaaDoor.F Go.Proofs.YtflejniglhjbfaaDoorW.Hand Go.Proofs.YtflejniglhjbfaaDoorW.PrintWords Go.Proofs.YtflejniglhjbfaaDoorW.PrintLast Go.Proofs.YtflejniglhjbfaaDoorW.PrintMore Go.Proofs.YtflejniglhjbfaaDoor.LebMath Go.Proofs.YtflejniglhjbfaaDoor.LebFns Go.Proofs.YtflejniglhjbfaaDoor.LebGets Go.Proofs.YtflejniglhjbfaaDoor.Pure13
set_option linter.unusedVariables false
set_option linter.unusedSimpArgs false

theorem below_drawn {w w1 : World} (h : Drawn0 w w1) : Below w.heap.size w w1 := h.below
theorem valid_calls (s : ByteArray) (w : World) (hs : s.size ≤ 140737488355328) (hT : Tabs w) : Calls Tryd.prog 15 #[.string s] w fun e w' => e = .returned (.bool (validD s.data.toList)) ∧ Below w.heap.size w w' :=
  Any.utf8_ValidString Tryd.laysValid s w (by omega) hT
theorem leb_calls (x : Int) (w : World) : Calls Tryd.prog 16 #[.int .i64 x] w fun e w' => e = .returned (.string (lebOf x)) ∧ Below w.heap.size w w' := by
  obtain ⟨k, hk⟩ := Ev.rounds (put_ev x)
  exact (leb_Put.calls k x _ w hk).mono fun _ _ h => ⟨h.1, by first | exact h.2 | exact h.2.below⟩
theorem lebget_calls (s : ByteArray) (a : Int) (w : World) (hs : s.size ≤ 140737488355328) {n p e : Int} (h : G s a 32 = (n, p, e)) : Calls Tryd.prog 19 #[.string s, .int .i64 a, .int .i64 32] w fun e' w' => e' = .returned (.tuple #[.int .i64 n, .int .i64 p, .int .i64 e]) ∧ Below w.heap.size w w' := by
  have he := get_ev s a 32 hs
  rw [h] at he
  obtain ⟨k, hk⟩ := Ev.rounds he
  exact (leb_Get.calls k s a 32 n p e w hk).mono fun _ _ h => ⟨h.1, by first | exact h.2 | exact below_drawn h.2⟩
theorem num_calls (x : Int) (w : World) : Calls Tryd.prog 13 #[.int .i64 x] w fun e w' => e = .returned (.int .i64 x) ∧ Below w.heap.size w w' :=
  (peloruslaw0_Num.calls x x w rfl).mono fun _ _ h => ⟨h.1, by first | exact h.2 | (rw [h.2]; exact Below.refl _ _) | exact below_drawn h.2⟩
set_option maxHeartbeats 4000000 in
set_option maxRecDepth 100000 in
theorem put_calls (s : ByteArray) (w : World) (hs : s.size ≤ 140737488355328) (hT : Tabs w) : Calls Tryd.prog 7 #[.string s] w fun e w' => e = .returned (.tuple #[.string (nput s).1, .int .i64 (nput s).2]) ∧ Below w.heap.size w w' := by
  have CV := Aside0.mk (valid_calls s w hs hT)
  unfold nput
  by_cases h : 64 < s.size
  · rw [if_pos h]
    have d : decide (64 < s.size) = true := decide_eq_true h
    clear CV
    go_enter Tryd.func7, Tryd.ntmps7
    go_wp2
    go_ret2
    exact ⟨rfl, Below.refl _ _⟩
  · rw [if_neg h]
    have d : decide (64 < s.size) = false := decide_eq_false h
    clear hs
    generalize validD s.data.toList = V at CV
    cases V
    · rw [if_neg (by decide)]
      go_enter Tryd.func7, Tryd.ntmps7
      go_wp2_with (go_at_call 15; (with_reducible refine CV.out.mono ?_); rintro e w1 ⟨rfl, hb⟩; have HB := Aside0.mk hb; clear hb)
      go_ret2
      exact ⟨rfl, HB.out⟩
    · rw [if_pos rfl]
      have hz2 : (lebOf (s.size : Int)).size + s.size ≤ 9223372036854775807 := by
        have hu : (U 9 ((s.size : Int) % 18446744073709551616)).length ≤ 10 := U_len 9 _
        unfold lebOf
        rw [strOfNums_size]; omega
      go_enter Tryd.func7, Tryd.ntmps7
      go_wp2_with (first | (go_at_call 15; (with_reducible refine CV.out.mono ?_); rintro e w1 ⟨rfl, hb⟩; have HB := Aside0.mk hb; clear hb) | (go_at_call 16; (with_reducible refine (leb_calls _ _).mono ?_); rintro e w2 ⟨rfl, hb⟩; have HB2 := Aside0.mk (below_step HB.out hb); clear hb))
      go_ret2
      exact ⟨rfl, HB2.out⟩
set_option maxHeartbeats 4000000 in
set_option maxRecDepth 100000 in
theorem may_calls (s : ByteArray) (w : World) (hs : s.size ≤ 140737488355328) (hT : Tabs w) : Calls Tryd.prog 11 #[.string s] w fun e w' => e = .returned (.bool (nmay s)) ∧ Below w.heap.size w w' := by
  have CV := Aside0.mk (valid_calls s w hs hT)
  unfold nmay
  by_cases h : s.size ≤ 64
  · rw [decide_eq_true h, Bool.true_and]
    have d : decide (s.size ≤ 64) = true := decide_eq_true h
    clear hs
    generalize validD s.data.toList = V at CV ⊢
    go_enter Tryd.func11, Tryd.ntmps11
    go_wp2_with (go_at_call 15; (with_reducible refine CV.out.mono ?_); rintro e w1 ⟨rfl, hb⟩; have HB := Aside0.mk hb; clear hb)
    go_ret
    exact ⟨rfl, HB.out⟩
  · rw [decide_eq_false h, Bool.false_and]
    have d : decide (s.size ≤ 64) = false := decide_eq_false h
    clear CV
    go_enter Tryd.func11, Tryd.ntmps11
    go_wp2
    go_ret
    exact ⟨rfl, Below.refl _ _⟩
set_option maxHeartbeats 4000000 in
set_option maxRecDepth 100000 in
theorem get_calls (s : ByteArray) (a : Int) (w : World) (hs : s.size ≤ 140737488355328) (hT : Tabs w) : Calls Tryd.prog 9 #[.string s, .int .i64 a] w fun e w' => e = .returned (.tuple #[.string (nget s a).1, .int .i64 (nget s a).2.1, .int .i64 (nget s a).2.2]) ∧ Below w.heap.size w w' := by
  unfold nget
  rcases G_form s a with ⟨n, p, hG, hn, hp⟩ | ⟨e, he, hG⟩
  · have CG := Aside0.mk (lebget_calls s a w hs hG)
    rw [hG]
    simp only [ne_eq, not_true_eq_false, false_or, Int.toNat_natCast]
    clear hG
    by_cases h1 : (n : Int) > (s.size : Int) - p
    · rw [if_pos h1]
      have d : decide ((s.size : Int) - (p : Int) < (n : Int)) = true := decide_eq_true h1
      clear h1
      go_enter Tryd.func9, Tryd.ntmps9
      go_wp2_with (go_at_call 19; (with_reducible refine CG.out.mono ?_); rintro e w1 ⟨rfl, hb⟩; have HB := Aside0.mk hb; clear hb)
      go_ret3
      exact ⟨rfl, HB.out⟩
    · rw [if_neg h1]
      have d : decide ((s.size : Int) - (p : Int) < (n : Int)) = false := decide_eq_false h1
      by_cases h2 : (n : Int) > 64
      · rw [if_pos h2]
        have d2 : decide ((64 : Int) < (n : Int)) = true := decide_eq_true h2
        clear h1 h2
        go_enter Tryd.func9, Tryd.ntmps9
        go_wp2_with (go_at_call 19; (with_reducible refine CG.out.mono ?_); rintro e w1 ⟨rfl, hb⟩; have HB := Aside0.mk hb; clear hb)
        go_ret3
        exact ⟨rfl, HB.out⟩
      · rw [if_neg h2]
        have d2 : decide ((64 : Int) < (n : Int)) = false := decide_eq_false h2
        have hes : (s.extract p (p + n)).size ≤ 140737488355328 := by rw [ByteArray.size_extract]; omega
        have CV : Aside0 (∀ W, Below w.heap.size w W → Calls Tryd.prog 15 #[.string (s.extract p (p + n))] W fun e w' => e = .returned (.bool (validD (s.extract p (p + n)).data.toList)) ∧ Below W.heap.size W w') := ⟨fun W hb => valid_calls _ W hes (tabs_below hT hb)⟩
        have hpn : p + n ≤ s.size := by omega
        obtain ⟨P, hP⟩ : ∃ P : Int, (p : Int) = P := ⟨_, rfl⟩
        obtain ⟨N, hN⟩ : ∃ N : Int, (n : Int) = N := ⟨_, rfl⟩
        have hw : wrap64 (P + N) = P + N := wrap64_eq (by omega) (by omega)
        have ex : s.extract p (p + n) = s.extract P.toNat (wrap64 (P + N)).toNat := by rw [hw, ← hP, ← hN]; congr 1
        have e2 : (p : Int) + n = wrap64 (P + N) := by rw [hw, hP, hN]
        rw [e2]
        rw [hP, hN] at CG d
        rw [hN] at d2
        rw [ex] at CV ⊢
        have q0 : (0 ≤ P) = True := eq_true (by omega)
        have q1 : decide (0 ≤ P) = true := decide_eq_true (by omega)
        have q2 : (P ≤ wrap64 (P + N)) = True := eq_true (by omega)
        have q3 : decide (P ≤ wrap64 (P + N)) = true := decide_eq_true (by omega)
        have q4 : (wrap64 (P + N) ≤ (s.size : Int)) = True := eq_true (by omega)
        have q5 : decide (wrap64 (P + N) ≤ (s.size : Int)) = true := decide_eq_true (by omega)
        have d3 : wrap64 ((s.size : Int) - P) = (s.size : Int) - P := wrap64_eq (by omega) (by omega)
        clear h1 h2 hT hes hpn hw ex e2 hn hp hs hP hN
        generalize validD (s.extract P.toNat (wrap64 (P + N)).toNat).data.toList = V at CV
        cases V
        · rw [if_neg (by decide)]
          go_enter Tryd.func9, Tryd.ntmps9
          go_wp2_with (first | (go_at_call 19; (with_reducible refine CG.out.mono ?_); rintro e w1 ⟨rfl, hb⟩; have HB := Aside0.mk hb; clear hb) | (go_at_call 15; (with_reducible refine (CV.out _ HB.out).mono ?_); rintro e w2 ⟨rfl, hb⟩; have HB2 := Aside0.mk (below_step HB.out hb); clear hb))
          go_ret3
          exact ⟨rfl, HB2.out⟩
        · rw [if_pos rfl]
          go_enter Tryd.func9, Tryd.ntmps9
          go_wp2_with (first | (go_at_call 19; (with_reducible refine CG.out.mono ?_); rintro e w1 ⟨rfl, hb⟩; have HB := Aside0.mk hb; clear hb) | (go_at_call 15; (with_reducible refine (CV.out _ HB.out).mono ?_); rintro e w2 ⟨rfl, hb⟩; have HB2 := Aside0.mk (below_step HB.out hb); clear hb))
          go_ret3
          exact ⟨rfl, HB2.out⟩
  · have CG := Aside0.mk (lebget_calls s a w hs hG)
    rw [hG]
    simp only [ne_eq, he, not_false_eq_true, true_or, if_true]
    have d : (e != 0) = true := bne_iff_ne.mpr he
    clear hG he hT
    go_enter Tryd.func9, Tryd.ntmps9
    go_wp2_with (go_at_call 19; (with_reducible refine CG.out.mono ?_); rintro e w1 ⟨rfl, hb⟩; have HB := Aside0.mk hb; clear hb)
    go_ret3
    exact ⟨rfl, HB.out⟩
end Go.Proofs.YtflejniglhjbfaaDoor.ENames
