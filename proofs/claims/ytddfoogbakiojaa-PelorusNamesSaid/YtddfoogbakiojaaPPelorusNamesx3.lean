-- PRINTED BY print.sh 35421559b90ae4d0a3588c463048766b98c2df88dd9212a6774a882060cdf62d: not written by this session
import Derived.Test.YtddfoogbakiojaaPPelorusNamesx0
import Derived.Test.YtddfoogbakiojaaPPelorusNamesx1
import Derived.Test.YtddfoogbakiojaaPPelorusNamesx2
namespace Go.Proofs.Ytddfoogbakiojaa.PPelorusNames
open Go.RowKit Go.Proofs.YtddfoogbakiojaaW.PrintWords Go.Proofs.YtddfoogbakiojaaW.PrintLast Go.Proofs.YtddfoogbakiojaaW.PrintMore
attribute [local go_sem] max2_int min2_int max_two min_two max_three min_three max_four min_four   -- for this text's walks alone
set_option linter.unusedVariables false
set_option linter.unusedSimpArgs false

/-! ### peloruslaw0_PelorusNames: function 3 -/
def peloruslaw0_PelorusNames.f  : Option (Bool) := (peloruslaw0_errors1.f).bind fun t178 => (if t178 = true then ((peloruslaw0_errors2.f).bind fun t179 => (if t179 = true then ((peloruslaw0_errors3.f).bind fun t180 => (if t180 = true then ((peloruslaw0_errors4.f).bind fun t181 => (if t181 = true then ((peloruslaw0_errors5.f).bind fun t182 => (if t182 = true then ((peloruslaw0_errors6.f).bind fun t183 => (if t183 = true then ((peloruslaw0_numbers1.f).bind fun t184 => (if t184 = true then ((peloruslaw0_numbers2.f).bind fun t185 => (if t185 = true then ((peloruslaw0_numbers3.f).bind fun t186 => (if t186 = true then ((peloruslaw0_numbers4.f).bind fun t187 => (if t187 = true then ((peloruslaw0_numbers5.f).bind fun t188 => (if t188 = true then ((peloruslaw0_numbers6.f).bind fun t189 => (some t189)) else (some false))) else (some false))) else (some false))) else (some false))) else (some false))) else (some false))) else (some false))) else (some false))) else (some false))) else (some false))) else (some false))
set_option maxHeartbeats 8000000 in
set_option maxRecDepth 100000 in
theorem peloruslaw0_PelorusNames.calls  (r : Bool) (w : World) (h : peloruslaw0_PelorusNames.f  = some r) :
    Calls Try.prog 3 #[] w fun e w' => e = .returned (.bool r) ∧ Drawn0 w w' := by
  have H : ((peloruslaw0_errors1.f).bind fun t178 => (if t178 = true then ((peloruslaw0_errors2.f).bind fun t179 => (if t179 = true then ((peloruslaw0_errors3.f).bind fun t180 => (if t180 = true then ((peloruslaw0_errors4.f).bind fun t181 => (if t181 = true then ((peloruslaw0_errors5.f).bind fun t182 => (if t182 = true then ((peloruslaw0_errors6.f).bind fun t183 => (if t183 = true then ((peloruslaw0_numbers1.f).bind fun t184 => (if t184 = true then ((peloruslaw0_numbers2.f).bind fun t185 => (if t185 = true then ((peloruslaw0_numbers3.f).bind fun t186 => (if t186 = true then ((peloruslaw0_numbers4.f).bind fun t187 => (if t187 = true then ((peloruslaw0_numbers5.f).bind fun t188 => (if t188 = true then ((peloruslaw0_numbers6.f).bind fun t189 => (some t189)) else (some false))) else (some false))) else (some false))) else (some false))) else (some false))) else (some false))) else (some false))) else (some false))) else (some false))) else (some false))) else (some false))) = some r := h
  clear h
  replace H := Option.bind_eq_some_iff.mp H
  obtain ⟨t178, A10, H⟩ := H
  replace H : (if t178 = true then ((peloruslaw0_errors2.f).bind fun t179 => (if t179 = true then ((peloruslaw0_errors3.f).bind fun t180 => (if t180 = true then ((peloruslaw0_errors4.f).bind fun t181 => (if t181 = true then ((peloruslaw0_errors5.f).bind fun t182 => (if t182 = true then ((peloruslaw0_errors6.f).bind fun t183 => (if t183 = true then ((peloruslaw0_numbers1.f).bind fun t184 => (if t184 = true then ((peloruslaw0_numbers2.f).bind fun t185 => (if t185 = true then ((peloruslaw0_numbers3.f).bind fun t186 => (if t186 = true then ((peloruslaw0_numbers4.f).bind fun t187 => (if t187 = true then ((peloruslaw0_numbers5.f).bind fun t188 => (if t188 = true then ((peloruslaw0_numbers6.f).bind fun t189 => (some t189)) else (some false))) else (some false))) else (some false))) else (some false))) else (some false))) else (some false))) else (some false))) else (some false))) else (some false))) else (some false))) else (some false)) = some r := H
  have A1 := Aside0.mk A10
  clear A10
  by_cases c2 : t178 = true
  · subst c2
    have H1 : ((peloruslaw0_errors2.f).bind fun t179 => (if t179 = true then ((peloruslaw0_errors3.f).bind fun t180 => (if t180 = true then ((peloruslaw0_errors4.f).bind fun t181 => (if t181 = true then ((peloruslaw0_errors5.f).bind fun t182 => (if t182 = true then ((peloruslaw0_errors6.f).bind fun t183 => (if t183 = true then ((peloruslaw0_numbers1.f).bind fun t184 => (if t184 = true then ((peloruslaw0_numbers2.f).bind fun t185 => (if t185 = true then ((peloruslaw0_numbers3.f).bind fun t186 => (if t186 = true then ((peloruslaw0_numbers4.f).bind fun t187 => (if t187 = true then ((peloruslaw0_numbers5.f).bind fun t188 => (if t188 = true then ((peloruslaw0_numbers6.f).bind fun t189 => (some t189)) else (some false))) else (some false))) else (some false))) else (some false))) else (some false))) else (some false))) else (some false))) else (some false))) else (some false))) else (some false))) = some r := by rw [if_pos rfl] at H; exact H
    clear H
    have H := H1
    clear H1
    replace H := Option.bind_eq_some_iff.mp H
    obtain ⟨t179, A30, H⟩ := H
    replace H : (if t179 = true then ((peloruslaw0_errors3.f).bind fun t180 => (if t180 = true then ((peloruslaw0_errors4.f).bind fun t181 => (if t181 = true then ((peloruslaw0_errors5.f).bind fun t182 => (if t182 = true then ((peloruslaw0_errors6.f).bind fun t183 => (if t183 = true then ((peloruslaw0_numbers1.f).bind fun t184 => (if t184 = true then ((peloruslaw0_numbers2.f).bind fun t185 => (if t185 = true then ((peloruslaw0_numbers3.f).bind fun t186 => (if t186 = true then ((peloruslaw0_numbers4.f).bind fun t187 => (if t187 = true then ((peloruslaw0_numbers5.f).bind fun t188 => (if t188 = true then ((peloruslaw0_numbers6.f).bind fun t189 => (some t189)) else (some false))) else (some false))) else (some false))) else (some false))) else (some false))) else (some false))) else (some false))) else (some false))) else (some false))) else (some false)) = some r := H
    have A3 := Aside0.mk A30
    clear A30
    by_cases c4 : t179 = true
    · subst c4
      have H1 : ((peloruslaw0_errors3.f).bind fun t180 => (if t180 = true then ((peloruslaw0_errors4.f).bind fun t181 => (if t181 = true then ((peloruslaw0_errors5.f).bind fun t182 => (if t182 = true then ((peloruslaw0_errors6.f).bind fun t183 => (if t183 = true then ((peloruslaw0_numbers1.f).bind fun t184 => (if t184 = true then ((peloruslaw0_numbers2.f).bind fun t185 => (if t185 = true then ((peloruslaw0_numbers3.f).bind fun t186 => (if t186 = true then ((peloruslaw0_numbers4.f).bind fun t187 => (if t187 = true then ((peloruslaw0_numbers5.f).bind fun t188 => (if t188 = true then ((peloruslaw0_numbers6.f).bind fun t189 => (some t189)) else (some false))) else (some false))) else (some false))) else (some false))) else (some false))) else (some false))) else (some false))) else (some false))) else (some false))) = some r := by rw [if_pos rfl] at H; exact H
      clear H
      have H := H1
      clear H1
      replace H := Option.bind_eq_some_iff.mp H
      obtain ⟨t180, A50, H⟩ := H
      replace H : (if t180 = true then ((peloruslaw0_errors4.f).bind fun t181 => (if t181 = true then ((peloruslaw0_errors5.f).bind fun t182 => (if t182 = true then ((peloruslaw0_errors6.f).bind fun t183 => (if t183 = true then ((peloruslaw0_numbers1.f).bind fun t184 => (if t184 = true then ((peloruslaw0_numbers2.f).bind fun t185 => (if t185 = true then ((peloruslaw0_numbers3.f).bind fun t186 => (if t186 = true then ((peloruslaw0_numbers4.f).bind fun t187 => (if t187 = true then ((peloruslaw0_numbers5.f).bind fun t188 => (if t188 = true then ((peloruslaw0_numbers6.f).bind fun t189 => (some t189)) else (some false))) else (some false))) else (some false))) else (some false))) else (some false))) else (some false))) else (some false))) else (some false))) else (some false)) = some r := H
      have A5 := Aside0.mk A50
      clear A50
      by_cases c6 : t180 = true
      · subst c6
        have H1 : ((peloruslaw0_errors4.f).bind fun t181 => (if t181 = true then ((peloruslaw0_errors5.f).bind fun t182 => (if t182 = true then ((peloruslaw0_errors6.f).bind fun t183 => (if t183 = true then ((peloruslaw0_numbers1.f).bind fun t184 => (if t184 = true then ((peloruslaw0_numbers2.f).bind fun t185 => (if t185 = true then ((peloruslaw0_numbers3.f).bind fun t186 => (if t186 = true then ((peloruslaw0_numbers4.f).bind fun t187 => (if t187 = true then ((peloruslaw0_numbers5.f).bind fun t188 => (if t188 = true then ((peloruslaw0_numbers6.f).bind fun t189 => (some t189)) else (some false))) else (some false))) else (some false))) else (some false))) else (some false))) else (some false))) else (some false))) else (some false))) = some r := by rw [if_pos rfl] at H; exact H
        clear H
        have H := H1
        clear H1
        replace H := Option.bind_eq_some_iff.mp H
        obtain ⟨t181, A70, H⟩ := H
        replace H : (if t181 = true then ((peloruslaw0_errors5.f).bind fun t182 => (if t182 = true then ((peloruslaw0_errors6.f).bind fun t183 => (if t183 = true then ((peloruslaw0_numbers1.f).bind fun t184 => (if t184 = true then ((peloruslaw0_numbers2.f).bind fun t185 => (if t185 = true then ((peloruslaw0_numbers3.f).bind fun t186 => (if t186 = true then ((peloruslaw0_numbers4.f).bind fun t187 => (if t187 = true then ((peloruslaw0_numbers5.f).bind fun t188 => (if t188 = true then ((peloruslaw0_numbers6.f).bind fun t189 => (some t189)) else (some false))) else (some false))) else (some false))) else (some false))) else (some false))) else (some false))) else (some false))) else (some false)) = some r := H
        have A7 := Aside0.mk A70
        clear A70
        by_cases c8 : t181 = true
        · subst c8
          have H1 : ((peloruslaw0_errors5.f).bind fun t182 => (if t182 = true then ((peloruslaw0_errors6.f).bind fun t183 => (if t183 = true then ((peloruslaw0_numbers1.f).bind fun t184 => (if t184 = true then ((peloruslaw0_numbers2.f).bind fun t185 => (if t185 = true then ((peloruslaw0_numbers3.f).bind fun t186 => (if t186 = true then ((peloruslaw0_numbers4.f).bind fun t187 => (if t187 = true then ((peloruslaw0_numbers5.f).bind fun t188 => (if t188 = true then ((peloruslaw0_numbers6.f).bind fun t189 => (some t189)) else (some false))) else (some false))) else (some false))) else (some false))) else (some false))) else (some false))) else (some false))) = some r := by rw [if_pos rfl] at H; exact H
          clear H
          have H := H1
          clear H1
          replace H := Option.bind_eq_some_iff.mp H
          obtain ⟨t182, A90, H⟩ := H
          replace H : (if t182 = true then ((peloruslaw0_errors6.f).bind fun t183 => (if t183 = true then ((peloruslaw0_numbers1.f).bind fun t184 => (if t184 = true then ((peloruslaw0_numbers2.f).bind fun t185 => (if t185 = true then ((peloruslaw0_numbers3.f).bind fun t186 => (if t186 = true then ((peloruslaw0_numbers4.f).bind fun t187 => (if t187 = true then ((peloruslaw0_numbers5.f).bind fun t188 => (if t188 = true then ((peloruslaw0_numbers6.f).bind fun t189 => (some t189)) else (some false))) else (some false))) else (some false))) else (some false))) else (some false))) else (some false))) else (some false)) = some r := H
          have A9 := Aside0.mk A90
          clear A90
          by_cases c10 : t182 = true
          · subst c10
            have H1 : ((peloruslaw0_errors6.f).bind fun t183 => (if t183 = true then ((peloruslaw0_numbers1.f).bind fun t184 => (if t184 = true then ((peloruslaw0_numbers2.f).bind fun t185 => (if t185 = true then ((peloruslaw0_numbers3.f).bind fun t186 => (if t186 = true then ((peloruslaw0_numbers4.f).bind fun t187 => (if t187 = true then ((peloruslaw0_numbers5.f).bind fun t188 => (if t188 = true then ((peloruslaw0_numbers6.f).bind fun t189 => (some t189)) else (some false))) else (some false))) else (some false))) else (some false))) else (some false))) else (some false))) = some r := by rw [if_pos rfl] at H; exact H
            clear H
            have H := H1
            clear H1
            replace H := Option.bind_eq_some_iff.mp H
            obtain ⟨t183, A110, H⟩ := H
            replace H : (if t183 = true then ((peloruslaw0_numbers1.f).bind fun t184 => (if t184 = true then ((peloruslaw0_numbers2.f).bind fun t185 => (if t185 = true then ((peloruslaw0_numbers3.f).bind fun t186 => (if t186 = true then ((peloruslaw0_numbers4.f).bind fun t187 => (if t187 = true then ((peloruslaw0_numbers5.f).bind fun t188 => (if t188 = true then ((peloruslaw0_numbers6.f).bind fun t189 => (some t189)) else (some false))) else (some false))) else (some false))) else (some false))) else (some false))) else (some false)) = some r := H
            have A11 := Aside0.mk A110
            clear A110
            by_cases c12 : t183 = true
            · subst c12
              have H1 : ((peloruslaw0_numbers1.f).bind fun t184 => (if t184 = true then ((peloruslaw0_numbers2.f).bind fun t185 => (if t185 = true then ((peloruslaw0_numbers3.f).bind fun t186 => (if t186 = true then ((peloruslaw0_numbers4.f).bind fun t187 => (if t187 = true then ((peloruslaw0_numbers5.f).bind fun t188 => (if t188 = true then ((peloruslaw0_numbers6.f).bind fun t189 => (some t189)) else (some false))) else (some false))) else (some false))) else (some false))) else (some false))) = some r := by rw [if_pos rfl] at H; exact H
              clear H
              have H := H1
              clear H1
              replace H := Option.bind_eq_some_iff.mp H
              obtain ⟨t184, A130, H⟩ := H
              replace H : (if t184 = true then ((peloruslaw0_numbers2.f).bind fun t185 => (if t185 = true then ((peloruslaw0_numbers3.f).bind fun t186 => (if t186 = true then ((peloruslaw0_numbers4.f).bind fun t187 => (if t187 = true then ((peloruslaw0_numbers5.f).bind fun t188 => (if t188 = true then ((peloruslaw0_numbers6.f).bind fun t189 => (some t189)) else (some false))) else (some false))) else (some false))) else (some false))) else (some false)) = some r := H
              have A13 := Aside0.mk A130
              clear A130
              by_cases c14 : t184 = true
              · subst c14
                have H1 : ((peloruslaw0_numbers2.f).bind fun t185 => (if t185 = true then ((peloruslaw0_numbers3.f).bind fun t186 => (if t186 = true then ((peloruslaw0_numbers4.f).bind fun t187 => (if t187 = true then ((peloruslaw0_numbers5.f).bind fun t188 => (if t188 = true then ((peloruslaw0_numbers6.f).bind fun t189 => (some t189)) else (some false))) else (some false))) else (some false))) else (some false))) = some r := by rw [if_pos rfl] at H; exact H
                clear H
                have H := H1
                clear H1
                replace H := Option.bind_eq_some_iff.mp H
                obtain ⟨t185, A150, H⟩ := H
                replace H : (if t185 = true then ((peloruslaw0_numbers3.f).bind fun t186 => (if t186 = true then ((peloruslaw0_numbers4.f).bind fun t187 => (if t187 = true then ((peloruslaw0_numbers5.f).bind fun t188 => (if t188 = true then ((peloruslaw0_numbers6.f).bind fun t189 => (some t189)) else (some false))) else (some false))) else (some false))) else (some false)) = some r := H
                have A15 := Aside0.mk A150
                clear A150
                by_cases c16 : t185 = true
                · subst c16
                  have H1 : ((peloruslaw0_numbers3.f).bind fun t186 => (if t186 = true then ((peloruslaw0_numbers4.f).bind fun t187 => (if t187 = true then ((peloruslaw0_numbers5.f).bind fun t188 => (if t188 = true then ((peloruslaw0_numbers6.f).bind fun t189 => (some t189)) else (some false))) else (some false))) else (some false))) = some r := by rw [if_pos rfl] at H; exact H
                  clear H
                  have H := H1
                  clear H1
                  replace H := Option.bind_eq_some_iff.mp H
                  obtain ⟨t186, A170, H⟩ := H
                  replace H : (if t186 = true then ((peloruslaw0_numbers4.f).bind fun t187 => (if t187 = true then ((peloruslaw0_numbers5.f).bind fun t188 => (if t188 = true then ((peloruslaw0_numbers6.f).bind fun t189 => (some t189)) else (some false))) else (some false))) else (some false)) = some r := H
                  have A17 := Aside0.mk A170
                  clear A170
                  by_cases c18 : t186 = true
                  · subst c18
                    have H1 : ((peloruslaw0_numbers4.f).bind fun t187 => (if t187 = true then ((peloruslaw0_numbers5.f).bind fun t188 => (if t188 = true then ((peloruslaw0_numbers6.f).bind fun t189 => (some t189)) else (some false))) else (some false))) = some r := by rw [if_pos rfl] at H; exact H
                    clear H
                    have H := H1
                    clear H1
                    replace H := Option.bind_eq_some_iff.mp H
                    obtain ⟨t187, A190, H⟩ := H
                    replace H : (if t187 = true then ((peloruslaw0_numbers5.f).bind fun t188 => (if t188 = true then ((peloruslaw0_numbers6.f).bind fun t189 => (some t189)) else (some false))) else (some false)) = some r := H
                    have A19 := Aside0.mk A190
                    clear A190
                    by_cases c20 : t187 = true
                    · subst c20
                      have H1 : ((peloruslaw0_numbers5.f).bind fun t188 => (if t188 = true then ((peloruslaw0_numbers6.f).bind fun t189 => (some t189)) else (some false))) = some r := by rw [if_pos rfl] at H; exact H
                      clear H
                      have H := H1
                      clear H1
                      replace H := Option.bind_eq_some_iff.mp H
                      obtain ⟨t188, A210, H⟩ := H
                      replace H : (if t188 = true then ((peloruslaw0_numbers6.f).bind fun t189 => (some t189)) else (some false)) = some r := H
                      have A21 := Aside0.mk A210
                      clear A210
                      by_cases c22 : t188 = true
                      · subst c22
                        have H1 : ((peloruslaw0_numbers6.f).bind fun t189 => (some t189)) = some r := by rw [if_pos rfl] at H; exact H
                        clear H
                        have H := H1
                        clear H1
                        replace H := Option.bind_eq_some_iff.mp H
                        obtain ⟨t189, A230, H⟩ := H
                        replace H : (some t189) = some r := H
                        have A23 := Aside0.mk A230
                        clear A230
                        obtain rfl := Option.some.inj H
                        go_enter Try.func3, Try.ntmps3
                        go_wp2_with (first | ((with_reducible refine gate_callee (f := 11) rfl ?_); refine goesL_ (some 1) rfl rfl Try.func11 (by kernel_rfl) rfl #[] rfl (by (try simp only [List.map_toArray, List.map_cons, List.map_nil]); first | done | rfl | (simp only [List.length_drop, List.length_take]; rfl)) ?_; (with_reducible refine (peloruslaw0_errors1.calls  true _ A1.out).mono ?_); rintro e w' ⟨rfl, ⟨nd, rfl⟩⟩; refine ⟨_, rfl, ?_⟩) | (go_at_call 12; (with_reducible refine (peloruslaw0_errors2.calls  true _ A3.out).mono ?_); rintro e w' ⟨rfl, ⟨nd, rfl⟩⟩) | (go_at_call 13; (with_reducible refine (peloruslaw0_errors3.calls  true _ A5.out).mono ?_); rintro e w' ⟨rfl, ⟨nd, rfl⟩⟩) | (go_at_call 14; (with_reducible refine (peloruslaw0_errors4.calls  true _ A7.out).mono ?_); rintro e w' ⟨rfl, ⟨nd, rfl⟩⟩) | (go_at_call 15; (with_reducible refine (peloruslaw0_errors5.calls  true _ A9.out).mono ?_); rintro e w' ⟨rfl, ⟨nd, rfl⟩⟩) | (go_at_call 16; (with_reducible refine (peloruslaw0_errors6.calls  true _ A11.out).mono ?_); rintro e w' ⟨rfl, ⟨nd, rfl⟩⟩) | (go_at_call 17; (with_reducible refine (peloruslaw0_numbers1.calls  true _ A13.out).mono ?_); rintro e w' ⟨rfl, ⟨nd, rfl⟩⟩) | (go_at_call 18; (with_reducible refine (peloruslaw0_numbers2.calls  true _ A15.out).mono ?_); rintro e w' ⟨rfl, ⟨nd, rfl⟩⟩) | (go_at_call 19; (with_reducible refine (peloruslaw0_numbers3.calls  true _ A17.out).mono ?_); rintro e w' ⟨rfl, ⟨nd, rfl⟩⟩) | (go_at_call 20; (with_reducible refine (peloruslaw0_numbers4.calls  true _ A19.out).mono ?_); rintro e w' ⟨rfl, ⟨nd, rfl⟩⟩) | (go_at_call 21; (with_reducible refine (peloruslaw0_numbers5.calls  true _ A21.out).mono ?_); rintro e w' ⟨rfl, ⟨nd, rfl⟩⟩) | (go_at_call 22; (with_reducible refine (peloruslaw0_numbers6.calls  t189 _ A23.out).mono ?_); rintro e w' ⟨rfl, ⟨nd, rfl⟩⟩))
                        go_ret
                        exact ⟨by first | rfl | (simp; done) | (simp [*]; done), by repeat (first | exact Drawn0.refl _ | apply Drawn0.step)⟩
                      · replace c22 := Bool.eq_false_iff.mpr c22
                        subst c22
                        have H1 : (some false) = some r := by rw [if_neg (show ¬ (false = true) by decide)] at H; exact H
                        clear H
                        have H := H1
                        clear H1
                        obtain rfl := Option.some.inj H
                        go_enter Try.func3, Try.ntmps3
                        go_wp2_with (first | ((with_reducible refine gate_callee (f := 11) rfl ?_); refine goesL_ (some 1) rfl rfl Try.func11 (by kernel_rfl) rfl #[] rfl (by (try simp only [List.map_toArray, List.map_cons, List.map_nil]); first | done | rfl | (simp only [List.length_drop, List.length_take]; rfl)) ?_; (with_reducible refine (peloruslaw0_errors1.calls  true _ A1.out).mono ?_); rintro e w' ⟨rfl, ⟨nd, rfl⟩⟩; refine ⟨_, rfl, ?_⟩) | (go_at_call 12; (with_reducible refine (peloruslaw0_errors2.calls  true _ A3.out).mono ?_); rintro e w' ⟨rfl, ⟨nd, rfl⟩⟩) | (go_at_call 13; (with_reducible refine (peloruslaw0_errors3.calls  true _ A5.out).mono ?_); rintro e w' ⟨rfl, ⟨nd, rfl⟩⟩) | (go_at_call 14; (with_reducible refine (peloruslaw0_errors4.calls  true _ A7.out).mono ?_); rintro e w' ⟨rfl, ⟨nd, rfl⟩⟩) | (go_at_call 15; (with_reducible refine (peloruslaw0_errors5.calls  true _ A9.out).mono ?_); rintro e w' ⟨rfl, ⟨nd, rfl⟩⟩) | (go_at_call 16; (with_reducible refine (peloruslaw0_errors6.calls  true _ A11.out).mono ?_); rintro e w' ⟨rfl, ⟨nd, rfl⟩⟩) | (go_at_call 17; (with_reducible refine (peloruslaw0_numbers1.calls  true _ A13.out).mono ?_); rintro e w' ⟨rfl, ⟨nd, rfl⟩⟩) | (go_at_call 18; (with_reducible refine (peloruslaw0_numbers2.calls  true _ A15.out).mono ?_); rintro e w' ⟨rfl, ⟨nd, rfl⟩⟩) | (go_at_call 19; (with_reducible refine (peloruslaw0_numbers3.calls  true _ A17.out).mono ?_); rintro e w' ⟨rfl, ⟨nd, rfl⟩⟩) | (go_at_call 20; (with_reducible refine (peloruslaw0_numbers4.calls  true _ A19.out).mono ?_); rintro e w' ⟨rfl, ⟨nd, rfl⟩⟩) | (go_at_call 21; (with_reducible refine (peloruslaw0_numbers5.calls  false _ A21.out).mono ?_); rintro e w' ⟨rfl, ⟨nd, rfl⟩⟩))
                        go_ret
                        exact ⟨by first | rfl | (simp; done) | (simp [*]; done), by repeat (first | exact Drawn0.refl _ | apply Drawn0.step)⟩
                    · replace c20 := Bool.eq_false_iff.mpr c20
                      subst c20
                      have H1 : (some false) = some r := by rw [if_neg (show ¬ (false = true) by decide)] at H; exact H
                      clear H
                      have H := H1
                      clear H1
                      obtain rfl := Option.some.inj H
                      go_enter Try.func3, Try.ntmps3
                      go_wp2_with (first | ((with_reducible refine gate_callee (f := 11) rfl ?_); refine goesL_ (some 1) rfl rfl Try.func11 (by kernel_rfl) rfl #[] rfl (by (try simp only [List.map_toArray, List.map_cons, List.map_nil]); first | done | rfl | (simp only [List.length_drop, List.length_take]; rfl)) ?_; (with_reducible refine (peloruslaw0_errors1.calls  true _ A1.out).mono ?_); rintro e w' ⟨rfl, ⟨nd, rfl⟩⟩; refine ⟨_, rfl, ?_⟩) | (go_at_call 12; (with_reducible refine (peloruslaw0_errors2.calls  true _ A3.out).mono ?_); rintro e w' ⟨rfl, ⟨nd, rfl⟩⟩) | (go_at_call 13; (with_reducible refine (peloruslaw0_errors3.calls  true _ A5.out).mono ?_); rintro e w' ⟨rfl, ⟨nd, rfl⟩⟩) | (go_at_call 14; (with_reducible refine (peloruslaw0_errors4.calls  true _ A7.out).mono ?_); rintro e w' ⟨rfl, ⟨nd, rfl⟩⟩) | (go_at_call 15; (with_reducible refine (peloruslaw0_errors5.calls  true _ A9.out).mono ?_); rintro e w' ⟨rfl, ⟨nd, rfl⟩⟩) | (go_at_call 16; (with_reducible refine (peloruslaw0_errors6.calls  true _ A11.out).mono ?_); rintro e w' ⟨rfl, ⟨nd, rfl⟩⟩) | (go_at_call 17; (with_reducible refine (peloruslaw0_numbers1.calls  true _ A13.out).mono ?_); rintro e w' ⟨rfl, ⟨nd, rfl⟩⟩) | (go_at_call 18; (with_reducible refine (peloruslaw0_numbers2.calls  true _ A15.out).mono ?_); rintro e w' ⟨rfl, ⟨nd, rfl⟩⟩) | (go_at_call 19; (with_reducible refine (peloruslaw0_numbers3.calls  true _ A17.out).mono ?_); rintro e w' ⟨rfl, ⟨nd, rfl⟩⟩) | (go_at_call 20; (with_reducible refine (peloruslaw0_numbers4.calls  false _ A19.out).mono ?_); rintro e w' ⟨rfl, ⟨nd, rfl⟩⟩))
                      go_ret
                      exact ⟨by first | rfl | (simp; done) | (simp [*]; done), by repeat (first | exact Drawn0.refl _ | apply Drawn0.step)⟩
                  · replace c18 := Bool.eq_false_iff.mpr c18
                    subst c18
                    have H1 : (some false) = some r := by rw [if_neg (show ¬ (false = true) by decide)] at H; exact H
                    clear H
                    have H := H1
                    clear H1
                    obtain rfl := Option.some.inj H
                    go_enter Try.func3, Try.ntmps3
                    go_wp2_with (first | ((with_reducible refine gate_callee (f := 11) rfl ?_); refine goesL_ (some 1) rfl rfl Try.func11 (by kernel_rfl) rfl #[] rfl (by (try simp only [List.map_toArray, List.map_cons, List.map_nil]); first | done | rfl | (simp only [List.length_drop, List.length_take]; rfl)) ?_; (with_reducible refine (peloruslaw0_errors1.calls  true _ A1.out).mono ?_); rintro e w' ⟨rfl, ⟨nd, rfl⟩⟩; refine ⟨_, rfl, ?_⟩) | (go_at_call 12; (with_reducible refine (peloruslaw0_errors2.calls  true _ A3.out).mono ?_); rintro e w' ⟨rfl, ⟨nd, rfl⟩⟩) | (go_at_call 13; (with_reducible refine (peloruslaw0_errors3.calls  true _ A5.out).mono ?_); rintro e w' ⟨rfl, ⟨nd, rfl⟩⟩) | (go_at_call 14; (with_reducible refine (peloruslaw0_errors4.calls  true _ A7.out).mono ?_); rintro e w' ⟨rfl, ⟨nd, rfl⟩⟩) | (go_at_call 15; (with_reducible refine (peloruslaw0_errors5.calls  true _ A9.out).mono ?_); rintro e w' ⟨rfl, ⟨nd, rfl⟩⟩) | (go_at_call 16; (with_reducible refine (peloruslaw0_errors6.calls  true _ A11.out).mono ?_); rintro e w' ⟨rfl, ⟨nd, rfl⟩⟩) | (go_at_call 17; (with_reducible refine (peloruslaw0_numbers1.calls  true _ A13.out).mono ?_); rintro e w' ⟨rfl, ⟨nd, rfl⟩⟩) | (go_at_call 18; (with_reducible refine (peloruslaw0_numbers2.calls  true _ A15.out).mono ?_); rintro e w' ⟨rfl, ⟨nd, rfl⟩⟩) | (go_at_call 19; (with_reducible refine (peloruslaw0_numbers3.calls  false _ A17.out).mono ?_); rintro e w' ⟨rfl, ⟨nd, rfl⟩⟩))
                    go_ret
                    exact ⟨by first | rfl | (simp; done) | (simp [*]; done), by repeat (first | exact Drawn0.refl _ | apply Drawn0.step)⟩
                · replace c16 := Bool.eq_false_iff.mpr c16
                  subst c16
                  have H1 : (some false) = some r := by rw [if_neg (show ¬ (false = true) by decide)] at H; exact H
                  clear H
                  have H := H1
                  clear H1
                  obtain rfl := Option.some.inj H
                  go_enter Try.func3, Try.ntmps3
                  go_wp2_with (first | ((with_reducible refine gate_callee (f := 11) rfl ?_); refine goesL_ (some 1) rfl rfl Try.func11 (by kernel_rfl) rfl #[] rfl (by (try simp only [List.map_toArray, List.map_cons, List.map_nil]); first | done | rfl | (simp only [List.length_drop, List.length_take]; rfl)) ?_; (with_reducible refine (peloruslaw0_errors1.calls  true _ A1.out).mono ?_); rintro e w' ⟨rfl, ⟨nd, rfl⟩⟩; refine ⟨_, rfl, ?_⟩) | (go_at_call 12; (with_reducible refine (peloruslaw0_errors2.calls  true _ A3.out).mono ?_); rintro e w' ⟨rfl, ⟨nd, rfl⟩⟩) | (go_at_call 13; (with_reducible refine (peloruslaw0_errors3.calls  true _ A5.out).mono ?_); rintro e w' ⟨rfl, ⟨nd, rfl⟩⟩) | (go_at_call 14; (with_reducible refine (peloruslaw0_errors4.calls  true _ A7.out).mono ?_); rintro e w' ⟨rfl, ⟨nd, rfl⟩⟩) | (go_at_call 15; (with_reducible refine (peloruslaw0_errors5.calls  true _ A9.out).mono ?_); rintro e w' ⟨rfl, ⟨nd, rfl⟩⟩) | (go_at_call 16; (with_reducible refine (peloruslaw0_errors6.calls  true _ A11.out).mono ?_); rintro e w' ⟨rfl, ⟨nd, rfl⟩⟩) | (go_at_call 17; (with_reducible refine (peloruslaw0_numbers1.calls  true _ A13.out).mono ?_); rintro e w' ⟨rfl, ⟨nd, rfl⟩⟩) | (go_at_call 18; (with_reducible refine (peloruslaw0_numbers2.calls  false _ A15.out).mono ?_); rintro e w' ⟨rfl, ⟨nd, rfl⟩⟩))
                  go_ret
                  exact ⟨by first | rfl | (simp; done) | (simp [*]; done), by repeat (first | exact Drawn0.refl _ | apply Drawn0.step)⟩
              · replace c14 := Bool.eq_false_iff.mpr c14
                subst c14
                have H1 : (some false) = some r := by rw [if_neg (show ¬ (false = true) by decide)] at H; exact H
                clear H
                have H := H1
                clear H1
                obtain rfl := Option.some.inj H
                go_enter Try.func3, Try.ntmps3
                go_wp2_with (first | ((with_reducible refine gate_callee (f := 11) rfl ?_); refine goesL_ (some 1) rfl rfl Try.func11 (by kernel_rfl) rfl #[] rfl (by (try simp only [List.map_toArray, List.map_cons, List.map_nil]); first | done | rfl | (simp only [List.length_drop, List.length_take]; rfl)) ?_; (with_reducible refine (peloruslaw0_errors1.calls  true _ A1.out).mono ?_); rintro e w' ⟨rfl, ⟨nd, rfl⟩⟩; refine ⟨_, rfl, ?_⟩) | (go_at_call 12; (with_reducible refine (peloruslaw0_errors2.calls  true _ A3.out).mono ?_); rintro e w' ⟨rfl, ⟨nd, rfl⟩⟩) | (go_at_call 13; (with_reducible refine (peloruslaw0_errors3.calls  true _ A5.out).mono ?_); rintro e w' ⟨rfl, ⟨nd, rfl⟩⟩) | (go_at_call 14; (with_reducible refine (peloruslaw0_errors4.calls  true _ A7.out).mono ?_); rintro e w' ⟨rfl, ⟨nd, rfl⟩⟩) | (go_at_call 15; (with_reducible refine (peloruslaw0_errors5.calls  true _ A9.out).mono ?_); rintro e w' ⟨rfl, ⟨nd, rfl⟩⟩) | (go_at_call 16; (with_reducible refine (peloruslaw0_errors6.calls  true _ A11.out).mono ?_); rintro e w' ⟨rfl, ⟨nd, rfl⟩⟩) | (go_at_call 17; (with_reducible refine (peloruslaw0_numbers1.calls  false _ A13.out).mono ?_); rintro e w' ⟨rfl, ⟨nd, rfl⟩⟩))
                go_ret
                exact ⟨by first | rfl | (simp; done) | (simp [*]; done), by repeat (first | exact Drawn0.refl _ | apply Drawn0.step)⟩
            · replace c12 := Bool.eq_false_iff.mpr c12
              subst c12
              have H1 : (some false) = some r := by rw [if_neg (show ¬ (false = true) by decide)] at H; exact H
              clear H
              have H := H1
              clear H1
              obtain rfl := Option.some.inj H
              go_enter Try.func3, Try.ntmps3
              go_wp2_with (first | ((with_reducible refine gate_callee (f := 11) rfl ?_); refine goesL_ (some 1) rfl rfl Try.func11 (by kernel_rfl) rfl #[] rfl (by (try simp only [List.map_toArray, List.map_cons, List.map_nil]); first | done | rfl | (simp only [List.length_drop, List.length_take]; rfl)) ?_; (with_reducible refine (peloruslaw0_errors1.calls  true _ A1.out).mono ?_); rintro e w' ⟨rfl, ⟨nd, rfl⟩⟩; refine ⟨_, rfl, ?_⟩) | (go_at_call 12; (with_reducible refine (peloruslaw0_errors2.calls  true _ A3.out).mono ?_); rintro e w' ⟨rfl, ⟨nd, rfl⟩⟩) | (go_at_call 13; (with_reducible refine (peloruslaw0_errors3.calls  true _ A5.out).mono ?_); rintro e w' ⟨rfl, ⟨nd, rfl⟩⟩) | (go_at_call 14; (with_reducible refine (peloruslaw0_errors4.calls  true _ A7.out).mono ?_); rintro e w' ⟨rfl, ⟨nd, rfl⟩⟩) | (go_at_call 15; (with_reducible refine (peloruslaw0_errors5.calls  true _ A9.out).mono ?_); rintro e w' ⟨rfl, ⟨nd, rfl⟩⟩) | (go_at_call 16; (with_reducible refine (peloruslaw0_errors6.calls  false _ A11.out).mono ?_); rintro e w' ⟨rfl, ⟨nd, rfl⟩⟩))
              go_ret
              exact ⟨by first | rfl | (simp; done) | (simp [*]; done), by repeat (first | exact Drawn0.refl _ | apply Drawn0.step)⟩
          · replace c10 := Bool.eq_false_iff.mpr c10
            subst c10
            have H1 : (some false) = some r := by rw [if_neg (show ¬ (false = true) by decide)] at H; exact H
            clear H
            have H := H1
            clear H1
            obtain rfl := Option.some.inj H
            go_enter Try.func3, Try.ntmps3
            go_wp2_with (first | ((with_reducible refine gate_callee (f := 11) rfl ?_); refine goesL_ (some 1) rfl rfl Try.func11 (by kernel_rfl) rfl #[] rfl (by (try simp only [List.map_toArray, List.map_cons, List.map_nil]); first | done | rfl | (simp only [List.length_drop, List.length_take]; rfl)) ?_; (with_reducible refine (peloruslaw0_errors1.calls  true _ A1.out).mono ?_); rintro e w' ⟨rfl, ⟨nd, rfl⟩⟩; refine ⟨_, rfl, ?_⟩) | (go_at_call 12; (with_reducible refine (peloruslaw0_errors2.calls  true _ A3.out).mono ?_); rintro e w' ⟨rfl, ⟨nd, rfl⟩⟩) | (go_at_call 13; (with_reducible refine (peloruslaw0_errors3.calls  true _ A5.out).mono ?_); rintro e w' ⟨rfl, ⟨nd, rfl⟩⟩) | (go_at_call 14; (with_reducible refine (peloruslaw0_errors4.calls  true _ A7.out).mono ?_); rintro e w' ⟨rfl, ⟨nd, rfl⟩⟩) | (go_at_call 15; (with_reducible refine (peloruslaw0_errors5.calls  false _ A9.out).mono ?_); rintro e w' ⟨rfl, ⟨nd, rfl⟩⟩))
            go_ret
            exact ⟨by first | rfl | (simp; done) | (simp [*]; done), by repeat (first | exact Drawn0.refl _ | apply Drawn0.step)⟩
        · replace c8 := Bool.eq_false_iff.mpr c8
          subst c8
          have H1 : (some false) = some r := by rw [if_neg (show ¬ (false = true) by decide)] at H; exact H
          clear H
          have H := H1
          clear H1
          obtain rfl := Option.some.inj H
          go_enter Try.func3, Try.ntmps3
          go_wp2_with (first | ((with_reducible refine gate_callee (f := 11) rfl ?_); refine goesL_ (some 1) rfl rfl Try.func11 (by kernel_rfl) rfl #[] rfl (by (try simp only [List.map_toArray, List.map_cons, List.map_nil]); first | done | rfl | (simp only [List.length_drop, List.length_take]; rfl)) ?_; (with_reducible refine (peloruslaw0_errors1.calls  true _ A1.out).mono ?_); rintro e w' ⟨rfl, ⟨nd, rfl⟩⟩; refine ⟨_, rfl, ?_⟩) | (go_at_call 12; (with_reducible refine (peloruslaw0_errors2.calls  true _ A3.out).mono ?_); rintro e w' ⟨rfl, ⟨nd, rfl⟩⟩) | (go_at_call 13; (with_reducible refine (peloruslaw0_errors3.calls  true _ A5.out).mono ?_); rintro e w' ⟨rfl, ⟨nd, rfl⟩⟩) | (go_at_call 14; (with_reducible refine (peloruslaw0_errors4.calls  false _ A7.out).mono ?_); rintro e w' ⟨rfl, ⟨nd, rfl⟩⟩))
          go_ret
          exact ⟨by first | rfl | (simp; done) | (simp [*]; done), by repeat (first | exact Drawn0.refl _ | apply Drawn0.step)⟩
      · replace c6 := Bool.eq_false_iff.mpr c6
        subst c6
        have H1 : (some false) = some r := by rw [if_neg (show ¬ (false = true) by decide)] at H; exact H
        clear H
        have H := H1
        clear H1
        obtain rfl := Option.some.inj H
        go_enter Try.func3, Try.ntmps3
        go_wp2_with (first | ((with_reducible refine gate_callee (f := 11) rfl ?_); refine goesL_ (some 1) rfl rfl Try.func11 (by kernel_rfl) rfl #[] rfl (by (try simp only [List.map_toArray, List.map_cons, List.map_nil]); first | done | rfl | (simp only [List.length_drop, List.length_take]; rfl)) ?_; (with_reducible refine (peloruslaw0_errors1.calls  true _ A1.out).mono ?_); rintro e w' ⟨rfl, ⟨nd, rfl⟩⟩; refine ⟨_, rfl, ?_⟩) | (go_at_call 12; (with_reducible refine (peloruslaw0_errors2.calls  true _ A3.out).mono ?_); rintro e w' ⟨rfl, ⟨nd, rfl⟩⟩) | (go_at_call 13; (with_reducible refine (peloruslaw0_errors3.calls  false _ A5.out).mono ?_); rintro e w' ⟨rfl, ⟨nd, rfl⟩⟩))
        go_ret
        exact ⟨by first | rfl | (simp; done) | (simp [*]; done), by repeat (first | exact Drawn0.refl _ | apply Drawn0.step)⟩
    · replace c4 := Bool.eq_false_iff.mpr c4
      subst c4
      have H1 : (some false) = some r := by rw [if_neg (show ¬ (false = true) by decide)] at H; exact H
      clear H
      have H := H1
      clear H1
      obtain rfl := Option.some.inj H
      go_enter Try.func3, Try.ntmps3
      go_wp2_with (first | ((with_reducible refine gate_callee (f := 11) rfl ?_); refine goesL_ (some 1) rfl rfl Try.func11 (by kernel_rfl) rfl #[] rfl (by (try simp only [List.map_toArray, List.map_cons, List.map_nil]); first | done | rfl | (simp only [List.length_drop, List.length_take]; rfl)) ?_; (with_reducible refine (peloruslaw0_errors1.calls  true _ A1.out).mono ?_); rintro e w' ⟨rfl, ⟨nd, rfl⟩⟩; refine ⟨_, rfl, ?_⟩) | (go_at_call 12; (with_reducible refine (peloruslaw0_errors2.calls  false _ A3.out).mono ?_); rintro e w' ⟨rfl, ⟨nd, rfl⟩⟩))
      go_ret
      exact ⟨by first | rfl | (simp; done) | (simp [*]; done), by repeat (first | exact Drawn0.refl _ | apply Drawn0.step)⟩
  · replace c2 := Bool.eq_false_iff.mpr c2
    subst c2
    have H1 : (some false) = some r := by rw [if_neg (show ¬ (false = true) by decide)] at H; exact H
    clear H
    have H := H1
    clear H1
    obtain rfl := Option.some.inj H
    go_enter Try.func3, Try.ntmps3
    go_wp2_with (first | ((with_reducible refine gate_callee (f := 11) rfl ?_); refine goesL_ (some 1) rfl rfl Try.func11 (by kernel_rfl) rfl #[] rfl (by (try simp only [List.map_toArray, List.map_cons, List.map_nil]); first | done | rfl | (simp only [List.length_drop, List.length_take]; rfl)) ?_; (with_reducible refine (peloruslaw0_errors1.calls  false _ A1.out).mono ?_); rintro e w' ⟨rfl, ⟨nd, rfl⟩⟩; refine ⟨_, rfl, ?_⟩))
    go_ret
    exact ⟨by first | rfl | (simp; done) | (simp [*]; done), by repeat (first | exact Drawn0.refl _ | apply Drawn0.step)⟩

/-- THE ONE PURE STATEMENT of peloruslaw0_PelorusNames: yours. -/
def peloruslaw0_PelorusNames.Pure : Prop := peloruslaw0_PelorusNames.f  = some true
theorem peloruslaw0_PelorusNames.walk (P : peloruslaw0_PelorusNames.Pure)  (w : World)  :
    Calls Try.prog 3 #[] w fun e w' => e = .returned (.bool true) ∧ Below w.heap.size w w' := by
  have h := P  
  refine (peloruslaw0_PelorusNames.calls  true w h).mono ?_
  rintro e w' ⟨rfl, hd⟩
  exact ⟨rfl, hd.below⟩

end Go.Proofs.Ytddfoogbakiojaa.PPelorusNames
