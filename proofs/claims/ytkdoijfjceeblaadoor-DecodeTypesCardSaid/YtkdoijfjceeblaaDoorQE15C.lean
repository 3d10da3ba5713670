/-
  What the claim leans on, in the order of its making: words about values and worlds, the printed functions, the decoder in plain words and its walk. Cut to what is used by wip/tools/prune15.py. (E15C)
-/
import Derived.Test.YtkdoijfjceeblaaDoorQF
import Derived.Lib.ValidLaws
import Derived.Test.YtkdoijfjceeblaaDoorQShelf
import Derived.Test.YtkdoijfjceeblaaDoorQE15A
namespace Go.Proofs.YtkdoijfjceeblaaDoor.Pure13
open Go Go.RowKit Go.Lib Go.Proofs.YtkdoijfjceeblaaDoor.F Go.Proofs.YtkdoijfjceeblaaDoorW.PrintWords Go.Proofs.YtkdoijfjceeblaaDoor.LebMath
set_option linter.unusedVariables false
set_option linter.unusedSimpArgs false
end Go.Proofs.YtkdoijfjceeblaaDoor.Pure13
namespace Go.Proofs.YtkdoijfjceeblaaDoor.ENames
open Go Go.RowKit Go.Lib Go.Proofs.YtkdoijfjceeblaaDoor.F Go.Proofs.YtkdoijfjceeblaaDoorW.Hand Go.Proofs.YtkdoijfjceeblaaDoorW.PrintWords Go.Proofs.YtkdoijfjceeblaaDoorW.PrintLast Go.Proofs.YtkdoijfjceeblaaDoorW.PrintMore Go.Proofs.YtkdoijfjceeblaaDoor.LebMath Go.Proofs.YtkdoijfjceeblaaDoor.LebFns Go.Proofs.YtkdoijfjceeblaaDoor.LebGets Go.Proofs.YtkdoijfjceeblaaDoor.Pure13
set_option linter.unusedVariables false
set_option linter.unusedSimpArgs false
def Tabs (w : World) : Prop := Utf8Tabs 0 1 w
theorem tabs_below {w w1 : World} (h : Tabs w) (hb : Below w.heap.size w w1) : Tabs w1 := Utf8Tabs_below h hb
def nmay (s : ByteArray) : Bool := decide (s.size ≤ 64) && validD s.data.toList
def nget (s : ByteArray) (a : Int) : ByteArray × Int × Int :=
  if (G s a 32).2.2 ≠ 0 ∨ (G s a 32).1 > (s.size : Int) - (G s a 32).2.1 then (⟨#[]⟩, 0, 1300) else if (G s a 32).1 > 64 then (⟨#[]⟩, 0, 1301)
  else if validD (s.extract (G s a 32).2.1.toNat ((G s a 32).2.1.toNat + (G s a 32).1.toNat)).data.toList then (s.extract (G s a 32).2.1.toNat ((G s a 32).2.1.toNat + (G s a 32).1.toNat), (G s a 32).2.1 + (G s a 32).1, 0) else (⟨#[]⟩, 0, 1300)
theorem T5_lt (s : ByteArray) (a : Int) (n : Nat) (hn : n ≤ 5) : T (byt s a) 0 n < 128 ^ 5 := by
  have := T_lt (byt s a) n 0
  have h2 : (128 : Int) ^ n ≤ 128 ^ 5 := by
    rcases n with _ | _ | _ | _ | _ | _ | n <;> first | decide | omega
  omega
theorem G_form (s : ByteArray) (a : Int) : (∃ n p : Nat, G s a 32 = ((n : Int), (p : Int), 0) ∧ n < 34359738368 ∧ p ≤ s.size) ∨ ∃ e : Int, e ≠ 0 ∧ G s a 32 = (0, 0, e) := by
  by_cases hf : Fit s a 32
  · rcases scan_or (byt s a) ((s.size : Int) - a).toNat (mo 32) with ⟨n, h1, h2, h3, h4, _⟩ | ⟨h, _⟩
    · rw [G_ok hf h4]
      unfold gres
      obtain ⟨_, h0, hs, _⟩ := hf
      have h5 := T_nonneg (byt s a) n 0
      have h6 := T5_lt s a n h2
      by_cases c : n = mo 32 ∧ byt s a (n - 1) / hw 32 ≠ 0
      · rw [if_pos c]; exact .inr ⟨1200, by decide, rfl⟩
      · rw [if_neg c]
        refine .inl ⟨(T (byt s a) 0 n).toNat, (a + n).toNat, ?_, by omega, by omega⟩
        rw [wrap64_eq (by omega) (by omega)]
        congr 1
        · omega
        · congr 1; omega
    · exact .inr ⟨_, h, G_err hf h⟩
  · exact .inr ⟨1200, by decide, G_not hf⟩
theorem below_drawn {w w1 : World} (h : Drawn0 w w1) : Below w.heap.size w w1 := h.below
theorem valid_calls (s : ByteArray) (w : World) (hs : s.size ≤ 140737488355328) (hT : Tabs w) : Calls Tryd.prog 67 #[.string s] w fun e w' => e = .returned (.bool (validD s.data.toList)) ∧ Below w.heap.size w w' :=
  Any.utf8_ValidString Tryd.laysValid s w (by omega) hT
theorem lebget_calls (s : ByteArray) (a : Int) (w : World) (hs : s.size ≤ 140737488355328) {n p e : Int} (h : G s a 32 = (n, p, e)) : Calls Tryd.prog 34 #[.string s, .int .i64 a, .int .i64 32] w fun e' w' => e' = .returned (.tuple #[.int .i64 n, .int .i64 p, .int .i64 e]) ∧ Below w.heap.size w w' := by
  have he := get_ev s a 32 hs
  rw [h] at he
  obtain ⟨k, hk⟩ := Ev.rounds he
  exact (leb_Get.calls k s a 32 n p e w hk).mono fun _ _ h => ⟨h.1, by first | exact h.2 | exact below_drawn h.2⟩
set_option maxHeartbeats 4000000 in
set_option maxRecDepth 100000 in
theorem get_calls (s : ByteArray) (a : Int) (w : World) (hs : s.size ≤ 140737488355328) (hT : Tabs w) : Calls Tryd.prog 58 #[.string s, .int .i64 a] w fun e w' => e = .returned (.tuple #[.string (nget s a).1, .int .i64 (nget s a).2.1, .int .i64 (nget s a).2.2]) ∧ Below w.heap.size w w' := by
  unfold nget
  rcases G_form s a with ⟨n, p, hG, hn, hp⟩ | ⟨e, he, hG⟩
  · have CG := Aside0.mk (lebget_calls s a w hs hG)
    rw [hG]
    simp only [ne_eq, not_true_eq_false, false_or, Int.toNat_natCast]
    clear hG
    by_cases h1 : (n : Int) > (s.size : Int) - p
    · rw [if_pos h1]
      have d : decide ((s.size : Int) - (p : Int) < (n : Int)) = true := decide_eq_true h1
      clear h1
      go_enter Tryd.func58, Tryd.ntmps58
      go_wp2_with (go_at_call 34; (with_reducible refine CG.out.mono ?_); rintro e w1 ⟨rfl, hb⟩; have HB := Aside0.mk hb; clear hb)
      go_ret3
      exact ⟨rfl, HB.out⟩
    · rw [if_neg h1]
      have d : decide ((s.size : Int) - (p : Int) < (n : Int)) = false := decide_eq_false h1
      by_cases h2 : (n : Int) > 64
      · rw [if_pos h2]
        have d2 : decide ((64 : Int) < (n : Int)) = true := decide_eq_true h2
        clear h1 h2
        go_enter Tryd.func58, Tryd.ntmps58
        go_wp2_with (go_at_call 34; (with_reducible refine CG.out.mono ?_); rintro e w1 ⟨rfl, hb⟩; have HB := Aside0.mk hb; clear hb)
        go_ret3
        exact ⟨rfl, HB.out⟩
      · rw [if_neg h2]
        have d2 : decide ((64 : Int) < (n : Int)) = false := decide_eq_false h2
        have hes : (s.extract p (p + n)).size ≤ 140737488355328 := by rw [ByteArray.size_extract]; omega
        have CV : Aside0 (∀ W, Below w.heap.size w W → Calls Tryd.prog 67 #[.string (s.extract p (p + n))] W fun e w' => e = .returned (.bool (validD (s.extract p (p + n)).data.toList)) ∧ Below W.heap.size W w') := ⟨fun W hb => valid_calls _ W hes (tabs_below hT hb)⟩
        have hpn : p + n ≤ s.size := by omega
        obtain ⟨P, hP⟩ : ∃ P : Int, (p : Int) = P := ⟨_, rfl⟩
        obtain ⟨N, hN⟩ : ∃ N : Int, (n : Int) = N := ⟨_, rfl⟩
        have hw : wrap64 (P + N) = P + N := wrap64_eq (by omega) (by omega)
        have ex : s.extract p (p + n) = s.extract P.toNat (wrap64 (P + N)).toNat := by rw [hw, ← hP, ← hN]; congr 1
        have e2 : (p : Int) + n = wrap64 (P + N) := by rw [hw, hP, hN]
        rw [e2]
        rw [hP, hN] at CG d
        rw [hN] at d2
        rw [ex] at CV ⊢
        have q0 : (0 ≤ P) = True := eq_true (by omega)
        have q1 : decide (0 ≤ P) = true := decide_eq_true (by omega)
        have q2 : (P ≤ wrap64 (P + N)) = True := eq_true (by omega)
        have q3 : decide (P ≤ wrap64 (P + N)) = true := decide_eq_true (by omega)
        have q4 : (wrap64 (P + N) ≤ (s.size : Int)) = True := eq_true (by omega)
        have q5 : decide (wrap64 (P + N) ≤ (s.size : Int)) = true := decide_eq_true (by omega)
        have d3 : wrap64 ((s.size : Int) - P) = (s.size : Int) - P := wrap64_eq (by omega) (by omega)
        clear h1 h2 hT hes hpn hw ex e2 hn hp hs hP hN
        generalize validD (s.extract P.toNat (wrap64 (P + N)).toNat).data.toList = V at CV
        cases V
        · rw [if_neg (by decide)]
          go_enter Tryd.func58, Tryd.ntmps58
          go_wp2_with (first | (go_at_call 34; (with_reducible refine CG.out.mono ?_); rintro e w1 ⟨rfl, hb⟩; have HB := Aside0.mk hb; clear hb) | (go_at_call 67; (with_reducible refine (CV.out _ HB.out).mono ?_); rintro e w2 ⟨rfl, hb⟩; have HB2 := Aside0.mk (below_step HB.out hb); clear hb))
          go_ret3
          exact ⟨rfl, HB2.out⟩
        · rw [if_pos rfl]
          go_enter Tryd.func58, Tryd.ntmps58
          go_wp2_with (first | (go_at_call 34; (with_reducible refine CG.out.mono ?_); rintro e w1 ⟨rfl, hb⟩; have HB := Aside0.mk hb; clear hb) | (go_at_call 67; (with_reducible refine (CV.out _ HB.out).mono ?_); rintro e w2 ⟨rfl, hb⟩; have HB2 := Aside0.mk (below_step HB.out hb); clear hb))
          go_ret3
          exact ⟨rfl, HB2.out⟩
  · have CG := Aside0.mk (lebget_calls s a w hs hG)
    rw [hG]
    simp only [ne_eq, he, not_false_eq_true, true_or, if_true]
    have d : (e != 0) = true := bne_iff_ne.mpr he
    clear hG he hT
    go_enter Tryd.func58, Tryd.ntmps58
    go_wp2_with (go_at_call 34; (with_reducible refine CG.out.mono ?_); rintro e w1 ⟨rfl, hb⟩; have HB := Aside0.mk hb; clear hb)
    go_ret3
    exact ⟨rfl, HB.out⟩
end Go.Proofs.YtkdoijfjceeblaaDoor.ENames
