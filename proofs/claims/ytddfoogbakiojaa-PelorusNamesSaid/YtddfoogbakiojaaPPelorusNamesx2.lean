-- PRINTED BY print.sh 35421559b90ae4d0a3588c463048766b98c2df88dd9212a6774a882060cdf62d: not written by this session
import Derived.Test.YtddfoogbakiojaaPPelorusNamesx0
import Derived.Test.YtddfoogbakiojaaPPelorusNamesx1
namespace Go.Proofs.Ytddfoogbakiojaa.PPelorusNames
open Go.RowKit Go.Proofs.YtddfoogbakiojaaW.PrintWords Go.Proofs.YtddfoogbakiojaaW.PrintLast Go.Proofs.YtddfoogbakiojaaW.PrintMore
attribute [local go_sem] max2_int min2_int max_two min_two max_three min_three max_four min_four   -- for this text's walks alone
set_option linter.unusedVariables false
set_option linter.unusedSimpArgs false

/-! ### peloruslaw0_errors4: function 14 -/
def peloruslaw0_errors4.f  : Option (Bool) := (peloruslaw0_Num.f 1700).bind fun t143 => (if t143 = 1700 then ((peloruslaw0_Num.f 1701).bind fun t144 => (if t144 = 1701 then ((peloruslaw0_Num.f 1800).bind fun t145 => (if t145 = 1800 then ((peloruslaw0_Num.f 1801).bind fun t146 => (if t146 = 1801 then ((peloruslaw0_Num.f 1802).bind fun t147 => (if t147 = 1802 then ((peloruslaw0_Num.f 1803).bind fun t148 => (if t148 = 1803 then ((peloruslaw0_Num.f 1804).bind fun t149 => (if t149 = 1804 then ((peloruslaw0_Num.f 1805).bind fun t150 => (if t150 = 1805 then ((peloruslaw0_Num.f 1806).bind fun t151 => (if t151 = 1806 then ((peloruslaw0_Num.f 1807).bind fun t152 => (if t152 = 1807 then ((peloruslaw0_Num.f 1900).bind fun t153 => (if t153 = 1900 then ((peloruslaw0_Num.f 1901).bind fun t154 => (if t154 = 1901 then ((peloruslaw0_Num.f 1902).bind fun t155 => (if t155 = 1902 then ((peloruslaw0_Num.f 1903).bind fun t156 => (some (t156 == 1903))) else (some false))) else (some false))) else (some false))) else (some false))) else (some false))) else (some false))) else (some false))) else (some false))) else (some false))) else (some false))) else (some false))) else (some false))) else (some false))
set_option maxHeartbeats 8000000 in
set_option maxRecDepth 100000 in
theorem peloruslaw0_errors4.calls  (r : Bool) (w : World) (h : peloruslaw0_errors4.f  = some r) :
    Calls Try.prog 14 #[] w fun e w' => e = .returned (.bool r) ∧ Drawn0 w w' := by
  have H : ((peloruslaw0_Num.f 1700).bind fun t143 => (if t143 = 1700 then ((peloruslaw0_Num.f 1701).bind fun t144 => (if t144 = 1701 then ((peloruslaw0_Num.f 1800).bind fun t145 => (if t145 = 1800 then ((peloruslaw0_Num.f 1801).bind fun t146 => (if t146 = 1801 then ((peloruslaw0_Num.f 1802).bind fun t147 => (if t147 = 1802 then ((peloruslaw0_Num.f 1803).bind fun t148 => (if t148 = 1803 then ((peloruslaw0_Num.f 1804).bind fun t149 => (if t149 = 1804 then ((peloruslaw0_Num.f 1805).bind fun t150 => (if t150 = 1805 then ((peloruslaw0_Num.f 1806).bind fun t151 => (if t151 = 1806 then ((peloruslaw0_Num.f 1807).bind fun t152 => (if t152 = 1807 then ((peloruslaw0_Num.f 1900).bind fun t153 => (if t153 = 1900 then ((peloruslaw0_Num.f 1901).bind fun t154 => (if t154 = 1901 then ((peloruslaw0_Num.f 1902).bind fun t155 => (if t155 = 1902 then ((peloruslaw0_Num.f 1903).bind fun t156 => (some (t156 == 1903))) else (some false))) else (some false))) else (some false))) else (some false))) else (some false))) else (some false))) else (some false))) else (some false))) else (some false))) else (some false))) else (some false))) else (some false))) else (some false))) = some r := h
  clear h
  replace H := Option.bind_eq_some_iff.mp H
  obtain ⟨t143, A10, H⟩ := H
  replace H : (if t143 = 1700 then ((peloruslaw0_Num.f 1701).bind fun t144 => (if t144 = 1701 then ((peloruslaw0_Num.f 1800).bind fun t145 => (if t145 = 1800 then ((peloruslaw0_Num.f 1801).bind fun t146 => (if t146 = 1801 then ((peloruslaw0_Num.f 1802).bind fun t147 => (if t147 = 1802 then ((peloruslaw0_Num.f 1803).bind fun t148 => (if t148 = 1803 then ((peloruslaw0_Num.f 1804).bind fun t149 => (if t149 = 1804 then ((peloruslaw0_Num.f 1805).bind fun t150 => (if t150 = 1805 then ((peloruslaw0_Num.f 1806).bind fun t151 => (if t151 = 1806 then ((peloruslaw0_Num.f 1807).bind fun t152 => (if t152 = 1807 then ((peloruslaw0_Num.f 1900).bind fun t153 => (if t153 = 1900 then ((peloruslaw0_Num.f 1901).bind fun t154 => (if t154 = 1901 then ((peloruslaw0_Num.f 1902).bind fun t155 => (if t155 = 1902 then ((peloruslaw0_Num.f 1903).bind fun t156 => (some (t156 == 1903))) else (some false))) else (some false))) else (some false))) else (some false))) else (some false))) else (some false))) else (some false))) else (some false))) else (some false))) else (some false))) else (some false))) else (some false))) else (some false)) = some r := H
  have A1 := Aside0.mk A10
  clear A10
  by_cases c2 : t143 = 1700
  · rw [if_pos c2] at H
    have c2b0 : (t143 == 1700) = true := beq_iff_eq.mpr c2
    have c2b1 : (t143 != 1700) = false := bne_eq_false_iff_eq.mpr c2
    clear c2
    replace H := Option.bind_eq_some_iff.mp H
    obtain ⟨t144, A30, H⟩ := H
    replace H : (if t144 = 1701 then ((peloruslaw0_Num.f 1800).bind fun t145 => (if t145 = 1800 then ((peloruslaw0_Num.f 1801).bind fun t146 => (if t146 = 1801 then ((peloruslaw0_Num.f 1802).bind fun t147 => (if t147 = 1802 then ((peloruslaw0_Num.f 1803).bind fun t148 => (if t148 = 1803 then ((peloruslaw0_Num.f 1804).bind fun t149 => (if t149 = 1804 then ((peloruslaw0_Num.f 1805).bind fun t150 => (if t150 = 1805 then ((peloruslaw0_Num.f 1806).bind fun t151 => (if t151 = 1806 then ((peloruslaw0_Num.f 1807).bind fun t152 => (if t152 = 1807 then ((peloruslaw0_Num.f 1900).bind fun t153 => (if t153 = 1900 then ((peloruslaw0_Num.f 1901).bind fun t154 => (if t154 = 1901 then ((peloruslaw0_Num.f 1902).bind fun t155 => (if t155 = 1902 then ((peloruslaw0_Num.f 1903).bind fun t156 => (some (t156 == 1903))) else (some false))) else (some false))) else (some false))) else (some false))) else (some false))) else (some false))) else (some false))) else (some false))) else (some false))) else (some false))) else (some false))) else (some false)) = some r := H
    have A3 := Aside0.mk A30
    clear A30
    by_cases c4 : t144 = 1701
    · rw [if_pos c4] at H
      have c4b0 : (t144 == 1701) = true := beq_iff_eq.mpr c4
      have c4b1 : (t144 != 1701) = false := bne_eq_false_iff_eq.mpr c4
      clear c4
      replace H := Option.bind_eq_some_iff.mp H
      obtain ⟨t145, A50, H⟩ := H
      replace H : (if t145 = 1800 then ((peloruslaw0_Num.f 1801).bind fun t146 => (if t146 = 1801 then ((peloruslaw0_Num.f 1802).bind fun t147 => (if t147 = 1802 then ((peloruslaw0_Num.f 1803).bind fun t148 => (if t148 = 1803 then ((peloruslaw0_Num.f 1804).bind fun t149 => (if t149 = 1804 then ((peloruslaw0_Num.f 1805).bind fun t150 => (if t150 = 1805 then ((peloruslaw0_Num.f 1806).bind fun t151 => (if t151 = 1806 then ((peloruslaw0_Num.f 1807).bind fun t152 => (if t152 = 1807 then ((peloruslaw0_Num.f 1900).bind fun t153 => (if t153 = 1900 then ((peloruslaw0_Num.f 1901).bind fun t154 => (if t154 = 1901 then ((peloruslaw0_Num.f 1902).bind fun t155 => (if t155 = 1902 then ((peloruslaw0_Num.f 1903).bind fun t156 => (some (t156 == 1903))) else (some false))) else (some false))) else (some false))) else (some false))) else (some false))) else (some false))) else (some false))) else (some false))) else (some false))) else (some false))) else (some false)) = some r := H
      have A5 := Aside0.mk A50
      clear A50
      by_cases c6 : t145 = 1800
      · rw [if_pos c6] at H
        have c6b0 : (t145 == 1800) = true := beq_iff_eq.mpr c6
        have c6b1 : (t145 != 1800) = false := bne_eq_false_iff_eq.mpr c6
        clear c6
        replace H := Option.bind_eq_some_iff.mp H
        obtain ⟨t146, A70, H⟩ := H
        replace H : (if t146 = 1801 then ((peloruslaw0_Num.f 1802).bind fun t147 => (if t147 = 1802 then ((peloruslaw0_Num.f 1803).bind fun t148 => (if t148 = 1803 then ((peloruslaw0_Num.f 1804).bind fun t149 => (if t149 = 1804 then ((peloruslaw0_Num.f 1805).bind fun t150 => (if t150 = 1805 then ((peloruslaw0_Num.f 1806).bind fun t151 => (if t151 = 1806 then ((peloruslaw0_Num.f 1807).bind fun t152 => (if t152 = 1807 then ((peloruslaw0_Num.f 1900).bind fun t153 => (if t153 = 1900 then ((peloruslaw0_Num.f 1901).bind fun t154 => (if t154 = 1901 then ((peloruslaw0_Num.f 1902).bind fun t155 => (if t155 = 1902 then ((peloruslaw0_Num.f 1903).bind fun t156 => (some (t156 == 1903))) else (some false))) else (some false))) else (some false))) else (some false))) else (some false))) else (some false))) else (some false))) else (some false))) else (some false))) else (some false)) = some r := H
        have A7 := Aside0.mk A70
        clear A70
        by_cases c8 : t146 = 1801
        · rw [if_pos c8] at H
          have c8b0 : (t146 == 1801) = true := beq_iff_eq.mpr c8
          have c8b1 : (t146 != 1801) = false := bne_eq_false_iff_eq.mpr c8
          clear c8
          replace H := Option.bind_eq_some_iff.mp H
          obtain ⟨t147, A90, H⟩ := H
          replace H : (if t147 = 1802 then ((peloruslaw0_Num.f 1803).bind fun t148 => (if t148 = 1803 then ((peloruslaw0_Num.f 1804).bind fun t149 => (if t149 = 1804 then ((peloruslaw0_Num.f 1805).bind fun t150 => (if t150 = 1805 then ((peloruslaw0_Num.f 1806).bind fun t151 => (if t151 = 1806 then ((peloruslaw0_Num.f 1807).bind fun t152 => (if t152 = 1807 then ((peloruslaw0_Num.f 1900).bind fun t153 => (if t153 = 1900 then ((peloruslaw0_Num.f 1901).bind fun t154 => (if t154 = 1901 then ((peloruslaw0_Num.f 1902).bind fun t155 => (if t155 = 1902 then ((peloruslaw0_Num.f 1903).bind fun t156 => (some (t156 == 1903))) else (some false))) else (some false))) else (some false))) else (some false))) else (some false))) else (some false))) else (some false))) else (some false))) else (some false)) = some r := H
          have A9 := Aside0.mk A90
          clear A90
          by_cases c10 : t147 = 1802
          · rw [if_pos c10] at H
            have c10b0 : (t147 == 1802) = true := beq_iff_eq.mpr c10
            have c10b1 : (t147 != 1802) = false := bne_eq_false_iff_eq.mpr c10
            clear c10
            replace H := Option.bind_eq_some_iff.mp H
            obtain ⟨t148, A110, H⟩ := H
            replace H : (if t148 = 1803 then ((peloruslaw0_Num.f 1804).bind fun t149 => (if t149 = 1804 then ((peloruslaw0_Num.f 1805).bind fun t150 => (if t150 = 1805 then ((peloruslaw0_Num.f 1806).bind fun t151 => (if t151 = 1806 then ((peloruslaw0_Num.f 1807).bind fun t152 => (if t152 = 1807 then ((peloruslaw0_Num.f 1900).bind fun t153 => (if t153 = 1900 then ((peloruslaw0_Num.f 1901).bind fun t154 => (if t154 = 1901 then ((peloruslaw0_Num.f 1902).bind fun t155 => (if t155 = 1902 then ((peloruslaw0_Num.f 1903).bind fun t156 => (some (t156 == 1903))) else (some false))) else (some false))) else (some false))) else (some false))) else (some false))) else (some false))) else (some false))) else (some false)) = some r := H
            have A11 := Aside0.mk A110
            clear A110
            by_cases c12 : t148 = 1803
            · rw [if_pos c12] at H
              have c12b0 : (t148 == 1803) = true := beq_iff_eq.mpr c12
              have c12b1 : (t148 != 1803) = false := bne_eq_false_iff_eq.mpr c12
              clear c12
              replace H := Option.bind_eq_some_iff.mp H
              obtain ⟨t149, A130, H⟩ := H
              replace H : (if t149 = 1804 then ((peloruslaw0_Num.f 1805).bind fun t150 => (if t150 = 1805 then ((peloruslaw0_Num.f 1806).bind fun t151 => (if t151 = 1806 then ((peloruslaw0_Num.f 1807).bind fun t152 => (if t152 = 1807 then ((peloruslaw0_Num.f 1900).bind fun t153 => (if t153 = 1900 then ((peloruslaw0_Num.f 1901).bind fun t154 => (if t154 = 1901 then ((peloruslaw0_Num.f 1902).bind fun t155 => (if t155 = 1902 then ((peloruslaw0_Num.f 1903).bind fun t156 => (some (t156 == 1903))) else (some false))) else (some false))) else (some false))) else (some false))) else (some false))) else (some false))) else (some false)) = some r := H
              have A13 := Aside0.mk A130
              clear A130
              by_cases c14 : t149 = 1804
              · rw [if_pos c14] at H
                have c14b0 : (t149 == 1804) = true := beq_iff_eq.mpr c14
                have c14b1 : (t149 != 1804) = false := bne_eq_false_iff_eq.mpr c14
                clear c14
                replace H := Option.bind_eq_some_iff.mp H
                obtain ⟨t150, A150, H⟩ := H
                replace H : (if t150 = 1805 then ((peloruslaw0_Num.f 1806).bind fun t151 => (if t151 = 1806 then ((peloruslaw0_Num.f 1807).bind fun t152 => (if t152 = 1807 then ((peloruslaw0_Num.f 1900).bind fun t153 => (if t153 = 1900 then ((peloruslaw0_Num.f 1901).bind fun t154 => (if t154 = 1901 then ((peloruslaw0_Num.f 1902).bind fun t155 => (if t155 = 1902 then ((peloruslaw0_Num.f 1903).bind fun t156 => (some (t156 == 1903))) else (some false))) else (some false))) else (some false))) else (some false))) else (some false))) else (some false)) = some r := H
                have A15 := Aside0.mk A150
                clear A150
                by_cases c16 : t150 = 1805
                · rw [if_pos c16] at H
                  have c16b0 : (t150 == 1805) = true := beq_iff_eq.mpr c16
                  have c16b1 : (t150 != 1805) = false := bne_eq_false_iff_eq.mpr c16
                  clear c16
                  replace H := Option.bind_eq_some_iff.mp H
                  obtain ⟨t151, A170, H⟩ := H
                  replace H : (if t151 = 1806 then ((peloruslaw0_Num.f 1807).bind fun t152 => (if t152 = 1807 then ((peloruslaw0_Num.f 1900).bind fun t153 => (if t153 = 1900 then ((peloruslaw0_Num.f 1901).bind fun t154 => (if t154 = 1901 then ((peloruslaw0_Num.f 1902).bind fun t155 => (if t155 = 1902 then ((peloruslaw0_Num.f 1903).bind fun t156 => (some (t156 == 1903))) else (some false))) else (some false))) else (some false))) else (some false))) else (some false)) = some r := H
                  have A17 := Aside0.mk A170
                  clear A170
                  by_cases c18 : t151 = 1806
                  · rw [if_pos c18] at H
                    have c18b0 : (t151 == 1806) = true := beq_iff_eq.mpr c18
                    have c18b1 : (t151 != 1806) = false := bne_eq_false_iff_eq.mpr c18
                    clear c18
                    replace H := Option.bind_eq_some_iff.mp H
                    obtain ⟨t152, A190, H⟩ := H
                    replace H : (if t152 = 1807 then ((peloruslaw0_Num.f 1900).bind fun t153 => (if t153 = 1900 then ((peloruslaw0_Num.f 1901).bind fun t154 => (if t154 = 1901 then ((peloruslaw0_Num.f 1902).bind fun t155 => (if t155 = 1902 then ((peloruslaw0_Num.f 1903).bind fun t156 => (some (t156 == 1903))) else (some false))) else (some false))) else (some false))) else (some false)) = some r := H
                    have A19 := Aside0.mk A190
                    clear A190
                    by_cases c20 : t152 = 1807
                    · rw [if_pos c20] at H
                      have c20b0 : (t152 == 1807) = true := beq_iff_eq.mpr c20
                      have c20b1 : (t152 != 1807) = false := bne_eq_false_iff_eq.mpr c20
                      clear c20
                      replace H := Option.bind_eq_some_iff.mp H
                      obtain ⟨t153, A210, H⟩ := H
                      replace H : (if t153 = 1900 then ((peloruslaw0_Num.f 1901).bind fun t154 => (if t154 = 1901 then ((peloruslaw0_Num.f 1902).bind fun t155 => (if t155 = 1902 then ((peloruslaw0_Num.f 1903).bind fun t156 => (some (t156 == 1903))) else (some false))) else (some false))) else (some false)) = some r := H
                      have A21 := Aside0.mk A210
                      clear A210
                      by_cases c22 : t153 = 1900
                      · rw [if_pos c22] at H
                        have c22b0 : (t153 == 1900) = true := beq_iff_eq.mpr c22
                        have c22b1 : (t153 != 1900) = false := bne_eq_false_iff_eq.mpr c22
                        clear c22
                        replace H := Option.bind_eq_some_iff.mp H
                        obtain ⟨t154, A230, H⟩ := H
                        replace H : (if t154 = 1901 then ((peloruslaw0_Num.f 1902).bind fun t155 => (if t155 = 1902 then ((peloruslaw0_Num.f 1903).bind fun t156 => (some (t156 == 1903))) else (some false))) else (some false)) = some r := H
                        have A23 := Aside0.mk A230
                        clear A230
                        by_cases c24 : t154 = 1901
                        · rw [if_pos c24] at H
                          have c24b0 : (t154 == 1901) = true := beq_iff_eq.mpr c24
                          have c24b1 : (t154 != 1901) = false := bne_eq_false_iff_eq.mpr c24
                          clear c24
                          replace H := Option.bind_eq_some_iff.mp H
                          obtain ⟨t155, A250, H⟩ := H
                          replace H : (if t155 = 1902 then ((peloruslaw0_Num.f 1903).bind fun t156 => (some (t156 == 1903))) else (some false)) = some r := H
                          have A25 := Aside0.mk A250
                          clear A250
                          by_cases c26 : t155 = 1902
                          · rw [if_pos c26] at H
                            have c26b0 : (t155 == 1902) = true := beq_iff_eq.mpr c26
                            have c26b1 : (t155 != 1902) = false := bne_eq_false_iff_eq.mpr c26
                            clear c26
                            replace H := Option.bind_eq_some_iff.mp H
                            obtain ⟨t156, A270, H⟩ := H
                            replace H : (some (t156 == 1903)) = some r := H
                            have A27 := Aside0.mk A270
                            clear A270
                            obtain rfl := Option.some.inj H
                            go_enter Try.func14, Try.ntmps14
                            go_wp2_with (first | ((with_reducible refine gate_callee (f := 28) rfl ?_); refine goesL_ (some 1) rfl rfl Try.func28 (by kernel_rfl) rfl #[.int .i64 1700] rfl (by (try simp only [List.map_toArray, List.map_cons, List.map_nil]); first | done | rfl | (simp only [List.length_drop, List.length_take]; rfl)) ?_; (with_reducible refine (peloruslaw0_Num.calls 1700 t143 _ A1.out).mono ?_); rintro e w' ⟨rfl, ⟨nd, rfl⟩⟩; refine ⟨_, rfl, ?_⟩) | (go_at_call 28; (with_reducible refine (peloruslaw0_Num.calls 1701 t144 _ A3.out).mono ?_); rintro e w' ⟨rfl, ⟨nd, rfl⟩⟩) | (go_at_call 28; (with_reducible refine (peloruslaw0_Num.calls 1800 t145 _ A5.out).mono ?_); rintro e w' ⟨rfl, ⟨nd, rfl⟩⟩) | (go_at_call 28; (with_reducible refine (peloruslaw0_Num.calls 1801 t146 _ A7.out).mono ?_); rintro e w' ⟨rfl, ⟨nd, rfl⟩⟩) | (go_at_call 28; (with_reducible refine (peloruslaw0_Num.calls 1802 t147 _ A9.out).mono ?_); rintro e w' ⟨rfl, ⟨nd, rfl⟩⟩) | (go_at_call 28; (with_reducible refine (peloruslaw0_Num.calls 1803 t148 _ A11.out).mono ?_); rintro e w' ⟨rfl, ⟨nd, rfl⟩⟩) | (go_at_call 28; (with_reducible refine (peloruslaw0_Num.calls 1804 t149 _ A13.out).mono ?_); rintro e w' ⟨rfl, ⟨nd, rfl⟩⟩) | (go_at_call 28; (with_reducible refine (peloruslaw0_Num.calls 1805 t150 _ A15.out).mono ?_); rintro e w' ⟨rfl, ⟨nd, rfl⟩⟩) | (go_at_call 28; (with_reducible refine (peloruslaw0_Num.calls 1806 t151 _ A17.out).mono ?_); rintro e w' ⟨rfl, ⟨nd, rfl⟩⟩) | (go_at_call 28; (with_reducible refine (peloruslaw0_Num.calls 1807 t152 _ A19.out).mono ?_); rintro e w' ⟨rfl, ⟨nd, rfl⟩⟩) | (go_at_call 28; (with_reducible refine (peloruslaw0_Num.calls 1900 t153 _ A21.out).mono ?_); rintro e w' ⟨rfl, ⟨nd, rfl⟩⟩) | (go_at_call 28; (with_reducible refine (peloruslaw0_Num.calls 1901 t154 _ A23.out).mono ?_); rintro e w' ⟨rfl, ⟨nd, rfl⟩⟩) | (go_at_call 28; (with_reducible refine (peloruslaw0_Num.calls 1902 t155 _ A25.out).mono ?_); rintro e w' ⟨rfl, ⟨nd, rfl⟩⟩) | (go_at_call 28; (with_reducible refine (peloruslaw0_Num.calls 1903 t156 _ A27.out).mono ?_); rintro e w' ⟨rfl, ⟨nd, rfl⟩⟩))
                            go_ret
                            exact ⟨by first | rfl | (simp; done) | (simp [*]; done), by repeat (first | exact Drawn0.refl _ | apply Drawn0.step)⟩
                          · rw [if_neg c26] at H
                            have c26b0 : (t155 == 1902) = false := beq_eq_false_iff_ne.mpr c26
                            have c26b1 : (t155 != 1902) = true := bne_iff_ne.mpr c26
                            obtain rfl := Option.some.inj H
                            go_enter Try.func14, Try.ntmps14
                            go_wp2_with (first | ((with_reducible refine gate_callee (f := 28) rfl ?_); refine goesL_ (some 1) rfl rfl Try.func28 (by kernel_rfl) rfl #[.int .i64 1700] rfl (by (try simp only [List.map_toArray, List.map_cons, List.map_nil]); first | done | rfl | (simp only [List.length_drop, List.length_take]; rfl)) ?_; (with_reducible refine (peloruslaw0_Num.calls 1700 t143 _ A1.out).mono ?_); rintro e w' ⟨rfl, ⟨nd, rfl⟩⟩; refine ⟨_, rfl, ?_⟩) | (go_at_call 28; (with_reducible refine (peloruslaw0_Num.calls 1701 t144 _ A3.out).mono ?_); rintro e w' ⟨rfl, ⟨nd, rfl⟩⟩) | (go_at_call 28; (with_reducible refine (peloruslaw0_Num.calls 1800 t145 _ A5.out).mono ?_); rintro e w' ⟨rfl, ⟨nd, rfl⟩⟩) | (go_at_call 28; (with_reducible refine (peloruslaw0_Num.calls 1801 t146 _ A7.out).mono ?_); rintro e w' ⟨rfl, ⟨nd, rfl⟩⟩) | (go_at_call 28; (with_reducible refine (peloruslaw0_Num.calls 1802 t147 _ A9.out).mono ?_); rintro e w' ⟨rfl, ⟨nd, rfl⟩⟩) | (go_at_call 28; (with_reducible refine (peloruslaw0_Num.calls 1803 t148 _ A11.out).mono ?_); rintro e w' ⟨rfl, ⟨nd, rfl⟩⟩) | (go_at_call 28; (with_reducible refine (peloruslaw0_Num.calls 1804 t149 _ A13.out).mono ?_); rintro e w' ⟨rfl, ⟨nd, rfl⟩⟩) | (go_at_call 28; (with_reducible refine (peloruslaw0_Num.calls 1805 t150 _ A15.out).mono ?_); rintro e w' ⟨rfl, ⟨nd, rfl⟩⟩) | (go_at_call 28; (with_reducible refine (peloruslaw0_Num.calls 1806 t151 _ A17.out).mono ?_); rintro e w' ⟨rfl, ⟨nd, rfl⟩⟩) | (go_at_call 28; (with_reducible refine (peloruslaw0_Num.calls 1807 t152 _ A19.out).mono ?_); rintro e w' ⟨rfl, ⟨nd, rfl⟩⟩) | (go_at_call 28; (with_reducible refine (peloruslaw0_Num.calls 1900 t153 _ A21.out).mono ?_); rintro e w' ⟨rfl, ⟨nd, rfl⟩⟩) | (go_at_call 28; (with_reducible refine (peloruslaw0_Num.calls 1901 t154 _ A23.out).mono ?_); rintro e w' ⟨rfl, ⟨nd, rfl⟩⟩) | (go_at_call 28; (with_reducible refine (peloruslaw0_Num.calls 1902 t155 _ A25.out).mono ?_); rintro e w' ⟨rfl, ⟨nd, rfl⟩⟩))
                            go_ret
                            exact ⟨by first | rfl | (simp; done) | (simp [*]; done), by repeat (first | exact Drawn0.refl _ | apply Drawn0.step)⟩
                        · rw [if_neg c24] at H
                          have c24b0 : (t154 == 1901) = false := beq_eq_false_iff_ne.mpr c24
                          have c24b1 : (t154 != 1901) = true := bne_iff_ne.mpr c24
                          obtain rfl := Option.some.inj H
                          go_enter Try.func14, Try.ntmps14
                          go_wp2_with (first | ((with_reducible refine gate_callee (f := 28) rfl ?_); refine goesL_ (some 1) rfl rfl Try.func28 (by kernel_rfl) rfl #[.int .i64 1700] rfl (by (try simp only [List.map_toArray, List.map_cons, List.map_nil]); first | done | rfl | (simp only [List.length_drop, List.length_take]; rfl)) ?_; (with_reducible refine (peloruslaw0_Num.calls 1700 t143 _ A1.out).mono ?_); rintro e w' ⟨rfl, ⟨nd, rfl⟩⟩; refine ⟨_, rfl, ?_⟩) | (go_at_call 28; (with_reducible refine (peloruslaw0_Num.calls 1701 t144 _ A3.out).mono ?_); rintro e w' ⟨rfl, ⟨nd, rfl⟩⟩) | (go_at_call 28; (with_reducible refine (peloruslaw0_Num.calls 1800 t145 _ A5.out).mono ?_); rintro e w' ⟨rfl, ⟨nd, rfl⟩⟩) | (go_at_call 28; (with_reducible refine (peloruslaw0_Num.calls 1801 t146 _ A7.out).mono ?_); rintro e w' ⟨rfl, ⟨nd, rfl⟩⟩) | (go_at_call 28; (with_reducible refine (peloruslaw0_Num.calls 1802 t147 _ A9.out).mono ?_); rintro e w' ⟨rfl, ⟨nd, rfl⟩⟩) | (go_at_call 28; (with_reducible refine (peloruslaw0_Num.calls 1803 t148 _ A11.out).mono ?_); rintro e w' ⟨rfl, ⟨nd, rfl⟩⟩) | (go_at_call 28; (with_reducible refine (peloruslaw0_Num.calls 1804 t149 _ A13.out).mono ?_); rintro e w' ⟨rfl, ⟨nd, rfl⟩⟩) | (go_at_call 28; (with_reducible refine (peloruslaw0_Num.calls 1805 t150 _ A15.out).mono ?_); rintro e w' ⟨rfl, ⟨nd, rfl⟩⟩) | (go_at_call 28; (with_reducible refine (peloruslaw0_Num.calls 1806 t151 _ A17.out).mono ?_); rintro e w' ⟨rfl, ⟨nd, rfl⟩⟩) | (go_at_call 28; (with_reducible refine (peloruslaw0_Num.calls 1807 t152 _ A19.out).mono ?_); rintro e w' ⟨rfl, ⟨nd, rfl⟩⟩) | (go_at_call 28; (with_reducible refine (peloruslaw0_Num.calls 1900 t153 _ A21.out).mono ?_); rintro e w' ⟨rfl, ⟨nd, rfl⟩⟩) | (go_at_call 28; (with_reducible refine (peloruslaw0_Num.calls 1901 t154 _ A23.out).mono ?_); rintro e w' ⟨rfl, ⟨nd, rfl⟩⟩))
                          go_ret
                          exact ⟨by first | rfl | (simp; done) | (simp [*]; done), by repeat (first | exact Drawn0.refl _ | apply Drawn0.step)⟩
                      · rw [if_neg c22] at H
                        have c22b0 : (t153 == 1900) = false := beq_eq_false_iff_ne.mpr c22
                        have c22b1 : (t153 != 1900) = true := bne_iff_ne.mpr c22
                        obtain rfl := Option.some.inj H
                        go_enter Try.func14, Try.ntmps14
                        go_wp2_with (first | ((with_reducible refine gate_callee (f := 28) rfl ?_); refine goesL_ (some 1) rfl rfl Try.func28 (by kernel_rfl) rfl #[.int .i64 1700] rfl (by (try simp only [List.map_toArray, List.map_cons, List.map_nil]); first | done | rfl | (simp only [List.length_drop, List.length_take]; rfl)) ?_; (with_reducible refine (peloruslaw0_Num.calls 1700 t143 _ A1.out).mono ?_); rintro e w' ⟨rfl, ⟨nd, rfl⟩⟩; refine ⟨_, rfl, ?_⟩) | (go_at_call 28; (with_reducible refine (peloruslaw0_Num.calls 1701 t144 _ A3.out).mono ?_); rintro e w' ⟨rfl, ⟨nd, rfl⟩⟩) | (go_at_call 28; (with_reducible refine (peloruslaw0_Num.calls 1800 t145 _ A5.out).mono ?_); rintro e w' ⟨rfl, ⟨nd, rfl⟩⟩) | (go_at_call 28; (with_reducible refine (peloruslaw0_Num.calls 1801 t146 _ A7.out).mono ?_); rintro e w' ⟨rfl, ⟨nd, rfl⟩⟩) | (go_at_call 28; (with_reducible refine (peloruslaw0_Num.calls 1802 t147 _ A9.out).mono ?_); rintro e w' ⟨rfl, ⟨nd, rfl⟩⟩) | (go_at_call 28; (with_reducible refine (peloruslaw0_Num.calls 1803 t148 _ A11.out).mono ?_); rintro e w' ⟨rfl, ⟨nd, rfl⟩⟩) | (go_at_call 28; (with_reducible refine (peloruslaw0_Num.calls 1804 t149 _ A13.out).mono ?_); rintro e w' ⟨rfl, ⟨nd, rfl⟩⟩) | (go_at_call 28; (with_reducible refine (peloruslaw0_Num.calls 1805 t150 _ A15.out).mono ?_); rintro e w' ⟨rfl, ⟨nd, rfl⟩⟩) | (go_at_call 28; (with_reducible refine (peloruslaw0_Num.calls 1806 t151 _ A17.out).mono ?_); rintro e w' ⟨rfl, ⟨nd, rfl⟩⟩) | (go_at_call 28; (with_reducible refine (peloruslaw0_Num.calls 1807 t152 _ A19.out).mono ?_); rintro e w' ⟨rfl, ⟨nd, rfl⟩⟩) | (go_at_call 28; (with_reducible refine (peloruslaw0_Num.calls 1900 t153 _ A21.out).mono ?_); rintro e w' ⟨rfl, ⟨nd, rfl⟩⟩))
                        go_ret
                        exact ⟨by first | rfl | (simp; done) | (simp [*]; done), by repeat (first | exact Drawn0.refl _ | apply Drawn0.step)⟩
                    · rw [if_neg c20] at H
                      have c20b0 : (t152 == 1807) = false := beq_eq_false_iff_ne.mpr c20
                      have c20b1 : (t152 != 1807) = true := bne_iff_ne.mpr c20
                      obtain rfl := Option.some.inj H
                      go_enter Try.func14, Try.ntmps14
                      go_wp2_with (first | ((with_reducible refine gate_callee (f := 28) rfl ?_); refine goesL_ (some 1) rfl rfl Try.func28 (by kernel_rfl) rfl #[.int .i64 1700] rfl (by (try simp only [List.map_toArray, List.map_cons, List.map_nil]); first | done | rfl | (simp only [List.length_drop, List.length_take]; rfl)) ?_; (with_reducible refine (peloruslaw0_Num.calls 1700 t143 _ A1.out).mono ?_); rintro e w' ⟨rfl, ⟨nd, rfl⟩⟩; refine ⟨_, rfl, ?_⟩) | (go_at_call 28; (with_reducible refine (peloruslaw0_Num.calls 1701 t144 _ A3.out).mono ?_); rintro e w' ⟨rfl, ⟨nd, rfl⟩⟩) | (go_at_call 28; (with_reducible refine (peloruslaw0_Num.calls 1800 t145 _ A5.out).mono ?_); rintro e w' ⟨rfl, ⟨nd, rfl⟩⟩) | (go_at_call 28; (with_reducible refine (peloruslaw0_Num.calls 1801 t146 _ A7.out).mono ?_); rintro e w' ⟨rfl, ⟨nd, rfl⟩⟩) | (go_at_call 28; (with_reducible refine (peloruslaw0_Num.calls 1802 t147 _ A9.out).mono ?_); rintro e w' ⟨rfl, ⟨nd, rfl⟩⟩) | (go_at_call 28; (with_reducible refine (peloruslaw0_Num.calls 1803 t148 _ A11.out).mono ?_); rintro e w' ⟨rfl, ⟨nd, rfl⟩⟩) | (go_at_call 28; (with_reducible refine (peloruslaw0_Num.calls 1804 t149 _ A13.out).mono ?_); rintro e w' ⟨rfl, ⟨nd, rfl⟩⟩) | (go_at_call 28; (with_reducible refine (peloruslaw0_Num.calls 1805 t150 _ A15.out).mono ?_); rintro e w' ⟨rfl, ⟨nd, rfl⟩⟩) | (go_at_call 28; (with_reducible refine (peloruslaw0_Num.calls 1806 t151 _ A17.out).mono ?_); rintro e w' ⟨rfl, ⟨nd, rfl⟩⟩) | (go_at_call 28; (with_reducible refine (peloruslaw0_Num.calls 1807 t152 _ A19.out).mono ?_); rintro e w' ⟨rfl, ⟨nd, rfl⟩⟩))
                      go_ret
                      exact ⟨by first | rfl | (simp; done) | (simp [*]; done), by repeat (first | exact Drawn0.refl _ | apply Drawn0.step)⟩
                  · rw [if_neg c18] at H
                    have c18b0 : (t151 == 1806) = false := beq_eq_false_iff_ne.mpr c18
                    have c18b1 : (t151 != 1806) = true := bne_iff_ne.mpr c18
                    obtain rfl := Option.some.inj H
                    go_enter Try.func14, Try.ntmps14
                    go_wp2_with (first | ((with_reducible refine gate_callee (f := 28) rfl ?_); refine goesL_ (some 1) rfl rfl Try.func28 (by kernel_rfl) rfl #[.int .i64 1700] rfl (by (try simp only [List.map_toArray, List.map_cons, List.map_nil]); first | done | rfl | (simp only [List.length_drop, List.length_take]; rfl)) ?_; (with_reducible refine (peloruslaw0_Num.calls 1700 t143 _ A1.out).mono ?_); rintro e w' ⟨rfl, ⟨nd, rfl⟩⟩; refine ⟨_, rfl, ?_⟩) | (go_at_call 28; (with_reducible refine (peloruslaw0_Num.calls 1701 t144 _ A3.out).mono ?_); rintro e w' ⟨rfl, ⟨nd, rfl⟩⟩) | (go_at_call 28; (with_reducible refine (peloruslaw0_Num.calls 1800 t145 _ A5.out).mono ?_); rintro e w' ⟨rfl, ⟨nd, rfl⟩⟩) | (go_at_call 28; (with_reducible refine (peloruslaw0_Num.calls 1801 t146 _ A7.out).mono ?_); rintro e w' ⟨rfl, ⟨nd, rfl⟩⟩) | (go_at_call 28; (with_reducible refine (peloruslaw0_Num.calls 1802 t147 _ A9.out).mono ?_); rintro e w' ⟨rfl, ⟨nd, rfl⟩⟩) | (go_at_call 28; (with_reducible refine (peloruslaw0_Num.calls 1803 t148 _ A11.out).mono ?_); rintro e w' ⟨rfl, ⟨nd, rfl⟩⟩) | (go_at_call 28; (with_reducible refine (peloruslaw0_Num.calls 1804 t149 _ A13.out).mono ?_); rintro e w' ⟨rfl, ⟨nd, rfl⟩⟩) | (go_at_call 28; (with_reducible refine (peloruslaw0_Num.calls 1805 t150 _ A15.out).mono ?_); rintro e w' ⟨rfl, ⟨nd, rfl⟩⟩) | (go_at_call 28; (with_reducible refine (peloruslaw0_Num.calls 1806 t151 _ A17.out).mono ?_); rintro e w' ⟨rfl, ⟨nd, rfl⟩⟩))
                    go_ret
                    exact ⟨by first | rfl | (simp; done) | (simp [*]; done), by repeat (first | exact Drawn0.refl _ | apply Drawn0.step)⟩
                · rw [if_neg c16] at H
                  have c16b0 : (t150 == 1805) = false := beq_eq_false_iff_ne.mpr c16
                  have c16b1 : (t150 != 1805) = true := bne_iff_ne.mpr c16
                  obtain rfl := Option.some.inj H
                  go_enter Try.func14, Try.ntmps14
                  go_wp2_with (first | ((with_reducible refine gate_callee (f := 28) rfl ?_); refine goesL_ (some 1) rfl rfl Try.func28 (by kernel_rfl) rfl #[.int .i64 1700] rfl (by (try simp only [List.map_toArray, List.map_cons, List.map_nil]); first | done | rfl | (simp only [List.length_drop, List.length_take]; rfl)) ?_; (with_reducible refine (peloruslaw0_Num.calls 1700 t143 _ A1.out).mono ?_); rintro e w' ⟨rfl, ⟨nd, rfl⟩⟩; refine ⟨_, rfl, ?_⟩) | (go_at_call 28; (with_reducible refine (peloruslaw0_Num.calls 1701 t144 _ A3.out).mono ?_); rintro e w' ⟨rfl, ⟨nd, rfl⟩⟩) | (go_at_call 28; (with_reducible refine (peloruslaw0_Num.calls 1800 t145 _ A5.out).mono ?_); rintro e w' ⟨rfl, ⟨nd, rfl⟩⟩) | (go_at_call 28; (with_reducible refine (peloruslaw0_Num.calls 1801 t146 _ A7.out).mono ?_); rintro e w' ⟨rfl, ⟨nd, rfl⟩⟩) | (go_at_call 28; (with_reducible refine (peloruslaw0_Num.calls 1802 t147 _ A9.out).mono ?_); rintro e w' ⟨rfl, ⟨nd, rfl⟩⟩) | (go_at_call 28; (with_reducible refine (peloruslaw0_Num.calls 1803 t148 _ A11.out).mono ?_); rintro e w' ⟨rfl, ⟨nd, rfl⟩⟩) | (go_at_call 28; (with_reducible refine (peloruslaw0_Num.calls 1804 t149 _ A13.out).mono ?_); rintro e w' ⟨rfl, ⟨nd, rfl⟩⟩) | (go_at_call 28; (with_reducible refine (peloruslaw0_Num.calls 1805 t150 _ A15.out).mono ?_); rintro e w' ⟨rfl, ⟨nd, rfl⟩⟩))
                  go_ret
                  exact ⟨by first | rfl | (simp; done) | (simp [*]; done), by repeat (first | exact Drawn0.refl _ | apply Drawn0.step)⟩
              · rw [if_neg c14] at H
                have c14b0 : (t149 == 1804) = false := beq_eq_false_iff_ne.mpr c14
                have c14b1 : (t149 != 1804) = true := bne_iff_ne.mpr c14
                obtain rfl := Option.some.inj H
                go_enter Try.func14, Try.ntmps14
                go_wp2_with (first | ((with_reducible refine gate_callee (f := 28) rfl ?_); refine goesL_ (some 1) rfl rfl Try.func28 (by kernel_rfl) rfl #[.int .i64 1700] rfl (by (try simp only [List.map_toArray, List.map_cons, List.map_nil]); first | done | rfl | (simp only [List.length_drop, List.length_take]; rfl)) ?_; (with_reducible refine (peloruslaw0_Num.calls 1700 t143 _ A1.out).mono ?_); rintro e w' ⟨rfl, ⟨nd, rfl⟩⟩; refine ⟨_, rfl, ?_⟩) | (go_at_call 28; (with_reducible refine (peloruslaw0_Num.calls 1701 t144 _ A3.out).mono ?_); rintro e w' ⟨rfl, ⟨nd, rfl⟩⟩) | (go_at_call 28; (with_reducible refine (peloruslaw0_Num.calls 1800 t145 _ A5.out).mono ?_); rintro e w' ⟨rfl, ⟨nd, rfl⟩⟩) | (go_at_call 28; (with_reducible refine (peloruslaw0_Num.calls 1801 t146 _ A7.out).mono ?_); rintro e w' ⟨rfl, ⟨nd, rfl⟩⟩) | (go_at_call 28; (with_reducible refine (peloruslaw0_Num.calls 1802 t147 _ A9.out).mono ?_); rintro e w' ⟨rfl, ⟨nd, rfl⟩⟩) | (go_at_call 28; (with_reducible refine (peloruslaw0_Num.calls 1803 t148 _ A11.out).mono ?_); rintro e w' ⟨rfl, ⟨nd, rfl⟩⟩) | (go_at_call 28; (with_reducible refine (peloruslaw0_Num.calls 1804 t149 _ A13.out).mono ?_); rintro e w' ⟨rfl, ⟨nd, rfl⟩⟩))
                go_ret
                exact ⟨by first | rfl | (simp; done) | (simp [*]; done), by repeat (first | exact Drawn0.refl _ | apply Drawn0.step)⟩
            · rw [if_neg c12] at H
              have c12b0 : (t148 == 1803) = false := beq_eq_false_iff_ne.mpr c12
              have c12b1 : (t148 != 1803) = true := bne_iff_ne.mpr c12
              obtain rfl := Option.some.inj H
              go_enter Try.func14, Try.ntmps14
              go_wp2_with (first | ((with_reducible refine gate_callee (f := 28) rfl ?_); refine goesL_ (some 1) rfl rfl Try.func28 (by kernel_rfl) rfl #[.int .i64 1700] rfl (by (try simp only [List.map_toArray, List.map_cons, List.map_nil]); first | done | rfl | (simp only [List.length_drop, List.length_take]; rfl)) ?_; (with_reducible refine (peloruslaw0_Num.calls 1700 t143 _ A1.out).mono ?_); rintro e w' ⟨rfl, ⟨nd, rfl⟩⟩; refine ⟨_, rfl, ?_⟩) | (go_at_call 28; (with_reducible refine (peloruslaw0_Num.calls 1701 t144 _ A3.out).mono ?_); rintro e w' ⟨rfl, ⟨nd, rfl⟩⟩) | (go_at_call 28; (with_reducible refine (peloruslaw0_Num.calls 1800 t145 _ A5.out).mono ?_); rintro e w' ⟨rfl, ⟨nd, rfl⟩⟩) | (go_at_call 28; (with_reducible refine (peloruslaw0_Num.calls 1801 t146 _ A7.out).mono ?_); rintro e w' ⟨rfl, ⟨nd, rfl⟩⟩) | (go_at_call 28; (with_reducible refine (peloruslaw0_Num.calls 1802 t147 _ A9.out).mono ?_); rintro e w' ⟨rfl, ⟨nd, rfl⟩⟩) | (go_at_call 28; (with_reducible refine (peloruslaw0_Num.calls 1803 t148 _ A11.out).mono ?_); rintro e w' ⟨rfl, ⟨nd, rfl⟩⟩))
              go_ret
              exact ⟨by first | rfl | (simp; done) | (simp [*]; done), by repeat (first | exact Drawn0.refl _ | apply Drawn0.step)⟩
          · rw [if_neg c10] at H
            have c10b0 : (t147 == 1802) = false := beq_eq_false_iff_ne.mpr c10
            have c10b1 : (t147 != 1802) = true := bne_iff_ne.mpr c10
            obtain rfl := Option.some.inj H
            go_enter Try.func14, Try.ntmps14
            go_wp2_with (first | ((with_reducible refine gate_callee (f := 28) rfl ?_); refine goesL_ (some 1) rfl rfl Try.func28 (by kernel_rfl) rfl #[.int .i64 1700] rfl (by (try simp only [List.map_toArray, List.map_cons, List.map_nil]); first | done | rfl | (simp only [List.length_drop, List.length_take]; rfl)) ?_; (with_reducible refine (peloruslaw0_Num.calls 1700 t143 _ A1.out).mono ?_); rintro e w' ⟨rfl, ⟨nd, rfl⟩⟩; refine ⟨_, rfl, ?_⟩) | (go_at_call 28; (with_reducible refine (peloruslaw0_Num.calls 1701 t144 _ A3.out).mono ?_); rintro e w' ⟨rfl, ⟨nd, rfl⟩⟩) | (go_at_call 28; (with_reducible refine (peloruslaw0_Num.calls 1800 t145 _ A5.out).mono ?_); rintro e w' ⟨rfl, ⟨nd, rfl⟩⟩) | (go_at_call 28; (with_reducible refine (peloruslaw0_Num.calls 1801 t146 _ A7.out).mono ?_); rintro e w' ⟨rfl, ⟨nd, rfl⟩⟩) | (go_at_call 28; (with_reducible refine (peloruslaw0_Num.calls 1802 t147 _ A9.out).mono ?_); rintro e w' ⟨rfl, ⟨nd, rfl⟩⟩))
            go_ret
            exact ⟨by first | rfl | (simp; done) | (simp [*]; done), by repeat (first | exact Drawn0.refl _ | apply Drawn0.step)⟩
        · rw [if_neg c8] at H
          have c8b0 : (t146 == 1801) = false := beq_eq_false_iff_ne.mpr c8
          have c8b1 : (t146 != 1801) = true := bne_iff_ne.mpr c8
          obtain rfl := Option.some.inj H
          go_enter Try.func14, Try.ntmps14
          go_wp2_with (first | ((with_reducible refine gate_callee (f := 28) rfl ?_); refine goesL_ (some 1) rfl rfl Try.func28 (by kernel_rfl) rfl #[.int .i64 1700] rfl (by (try simp only [List.map_toArray, List.map_cons, List.map_nil]); first | done | rfl | (simp only [List.length_drop, List.length_take]; rfl)) ?_; (with_reducible refine (peloruslaw0_Num.calls 1700 t143 _ A1.out).mono ?_); rintro e w' ⟨rfl, ⟨nd, rfl⟩⟩; refine ⟨_, rfl, ?_⟩) | (go_at_call 28; (with_reducible refine (peloruslaw0_Num.calls 1701 t144 _ A3.out).mono ?_); rintro e w' ⟨rfl, ⟨nd, rfl⟩⟩) | (go_at_call 28; (with_reducible refine (peloruslaw0_Num.calls 1800 t145 _ A5.out).mono ?_); rintro e w' ⟨rfl, ⟨nd, rfl⟩⟩) | (go_at_call 28; (with_reducible refine (peloruslaw0_Num.calls 1801 t146 _ A7.out).mono ?_); rintro e w' ⟨rfl, ⟨nd, rfl⟩⟩))
          go_ret
          exact ⟨by first | rfl | (simp; done) | (simp [*]; done), by repeat (first | exact Drawn0.refl _ | apply Drawn0.step)⟩
      · rw [if_neg c6] at H
        have c6b0 : (t145 == 1800) = false := beq_eq_false_iff_ne.mpr c6
        have c6b1 : (t145 != 1800) = true := bne_iff_ne.mpr c6
        obtain rfl := Option.some.inj H
        go_enter Try.func14, Try.ntmps14
        go_wp2_with (first | ((with_reducible refine gate_callee (f := 28) rfl ?_); refine goesL_ (some 1) rfl rfl Try.func28 (by kernel_rfl) rfl #[.int .i64 1700] rfl (by (try simp only [List.map_toArray, List.map_cons, List.map_nil]); first | done | rfl | (simp only [List.length_drop, List.length_take]; rfl)) ?_; (with_reducible refine (peloruslaw0_Num.calls 1700 t143 _ A1.out).mono ?_); rintro e w' ⟨rfl, ⟨nd, rfl⟩⟩; refine ⟨_, rfl, ?_⟩) | (go_at_call 28; (with_reducible refine (peloruslaw0_Num.calls 1701 t144 _ A3.out).mono ?_); rintro e w' ⟨rfl, ⟨nd, rfl⟩⟩) | (go_at_call 28; (with_reducible refine (peloruslaw0_Num.calls 1800 t145 _ A5.out).mono ?_); rintro e w' ⟨rfl, ⟨nd, rfl⟩⟩))
        go_ret
        exact ⟨by first | rfl | (simp; done) | (simp [*]; done), by repeat (first | exact Drawn0.refl _ | apply Drawn0.step)⟩
    · rw [if_neg c4] at H
      have c4b0 : (t144 == 1701) = false := beq_eq_false_iff_ne.mpr c4
      have c4b1 : (t144 != 1701) = true := bne_iff_ne.mpr c4
      obtain rfl := Option.some.inj H
      go_enter Try.func14, Try.ntmps14
      go_wp2_with (first | ((with_reducible refine gate_callee (f := 28) rfl ?_); refine goesL_ (some 1) rfl rfl Try.func28 (by kernel_rfl) rfl #[.int .i64 1700] rfl (by (try simp only [List.map_toArray, List.map_cons, List.map_nil]); first | done | rfl | (simp only [List.length_drop, List.length_take]; rfl)) ?_; (with_reducible refine (peloruslaw0_Num.calls 1700 t143 _ A1.out).mono ?_); rintro e w' ⟨rfl, ⟨nd, rfl⟩⟩; refine ⟨_, rfl, ?_⟩) | (go_at_call 28; (with_reducible refine (peloruslaw0_Num.calls 1701 t144 _ A3.out).mono ?_); rintro e w' ⟨rfl, ⟨nd, rfl⟩⟩))
      go_ret
      exact ⟨by first | rfl | (simp; done) | (simp [*]; done), by repeat (first | exact Drawn0.refl _ | apply Drawn0.step)⟩
  · rw [if_neg c2] at H
    have c2b0 : (t143 == 1700) = false := beq_eq_false_iff_ne.mpr c2
    have c2b1 : (t143 != 1700) = true := bne_iff_ne.mpr c2
    obtain rfl := Option.some.inj H
    go_enter Try.func14, Try.ntmps14
    go_wp2_with (first | ((with_reducible refine gate_callee (f := 28) rfl ?_); refine goesL_ (some 1) rfl rfl Try.func28 (by kernel_rfl) rfl #[.int .i64 1700] rfl (by (try simp only [List.map_toArray, List.map_cons, List.map_nil]); first | done | rfl | (simp only [List.length_drop, List.length_take]; rfl)) ?_; (with_reducible refine (peloruslaw0_Num.calls 1700 t143 _ A1.out).mono ?_); rintro e w' ⟨rfl, ⟨nd, rfl⟩⟩; refine ⟨_, rfl, ?_⟩))
    go_ret
    exact ⟨by first | rfl | (simp; done) | (simp [*]; done), by repeat (first | exact Drawn0.refl _ | apply Drawn0.step)⟩

/-! ### peloruslaw0_errors5: function 15 -/
def peloruslaw0_errors5.f  : Option (Bool) := (peloruslaw0_Num.f 1904).bind fun t157 => (if t157 = 1904 then ((peloruslaw0_Num.f 1905).bind fun t158 => (if t158 = 1905 then ((peloruslaw0_Num.f 1906).bind fun t159 => (if t159 = 1906 then ((peloruslaw0_Num.f 1907).bind fun t160 => (if t160 = 1907 then ((peloruslaw0_Num.f 1908).bind fun t161 => (if t161 = 1908 then ((peloruslaw0_Num.f 1909).bind fun t162 => (if t162 = 1909 then ((peloruslaw0_Num.f 1910).bind fun t163 => (if t163 = 1910 then ((peloruslaw0_Num.f 2000).bind fun t164 => (if t164 = 2000 then ((peloruslaw0_Num.f 2001).bind fun t165 => (if t165 = 2001 then ((peloruslaw0_Num.f 2100).bind fun t166 => (if t166 = 2100 then ((peloruslaw0_Num.f 2101).bind fun t167 => (if t167 = 2101 then ((peloruslaw0_Num.f 2102).bind fun t168 => (if t168 = 2102 then ((peloruslaw0_Num.f 2103).bind fun t169 => (if t169 = 2103 then ((peloruslaw0_Num.f 2104).bind fun t170 => (some (t170 == 2104))) else (some false))) else (some false))) else (some false))) else (some false))) else (some false))) else (some false))) else (some false))) else (some false))) else (some false))) else (some false))) else (some false))) else (some false))) else (some false))
set_option maxHeartbeats 8000000 in
set_option maxRecDepth 100000 in
theorem peloruslaw0_errors5.calls  (r : Bool) (w : World) (h : peloruslaw0_errors5.f  = some r) :
    Calls Try.prog 15 #[] w fun e w' => e = .returned (.bool r) ∧ Drawn0 w w' := by
  have H : ((peloruslaw0_Num.f 1904).bind fun t157 => (if t157 = 1904 then ((peloruslaw0_Num.f 1905).bind fun t158 => (if t158 = 1905 then ((peloruslaw0_Num.f 1906).bind fun t159 => (if t159 = 1906 then ((peloruslaw0_Num.f 1907).bind fun t160 => (if t160 = 1907 then ((peloruslaw0_Num.f 1908).bind fun t161 => (if t161 = 1908 then ((peloruslaw0_Num.f 1909).bind fun t162 => (if t162 = 1909 then ((peloruslaw0_Num.f 1910).bind fun t163 => (if t163 = 1910 then ((peloruslaw0_Num.f 2000).bind fun t164 => (if t164 = 2000 then ((peloruslaw0_Num.f 2001).bind fun t165 => (if t165 = 2001 then ((peloruslaw0_Num.f 2100).bind fun t166 => (if t166 = 2100 then ((peloruslaw0_Num.f 2101).bind fun t167 => (if t167 = 2101 then ((peloruslaw0_Num.f 2102).bind fun t168 => (if t168 = 2102 then ((peloruslaw0_Num.f 2103).bind fun t169 => (if t169 = 2103 then ((peloruslaw0_Num.f 2104).bind fun t170 => (some (t170 == 2104))) else (some false))) else (some false))) else (some false))) else (some false))) else (some false))) else (some false))) else (some false))) else (some false))) else (some false))) else (some false))) else (some false))) else (some false))) else (some false))) = some r := h
  clear h
  replace H := Option.bind_eq_some_iff.mp H
  obtain ⟨t157, A10, H⟩ := H
  replace H : (if t157 = 1904 then ((peloruslaw0_Num.f 1905).bind fun t158 => (if t158 = 1905 then ((peloruslaw0_Num.f 1906).bind fun t159 => (if t159 = 1906 then ((peloruslaw0_Num.f 1907).bind fun t160 => (if t160 = 1907 then ((peloruslaw0_Num.f 1908).bind fun t161 => (if t161 = 1908 then ((peloruslaw0_Num.f 1909).bind fun t162 => (if t162 = 1909 then ((peloruslaw0_Num.f 1910).bind fun t163 => (if t163 = 1910 then ((peloruslaw0_Num.f 2000).bind fun t164 => (if t164 = 2000 then ((peloruslaw0_Num.f 2001).bind fun t165 => (if t165 = 2001 then ((peloruslaw0_Num.f 2100).bind fun t166 => (if t166 = 2100 then ((peloruslaw0_Num.f 2101).bind fun t167 => (if t167 = 2101 then ((peloruslaw0_Num.f 2102).bind fun t168 => (if t168 = 2102 then ((peloruslaw0_Num.f 2103).bind fun t169 => (if t169 = 2103 then ((peloruslaw0_Num.f 2104).bind fun t170 => (some (t170 == 2104))) else (some false))) else (some false))) else (some false))) else (some false))) else (some false))) else (some false))) else (some false))) else (some false))) else (some false))) else (some false))) else (some false))) else (some false))) else (some false)) = some r := H
  have A1 := Aside0.mk A10
  clear A10
  by_cases c2 : t157 = 1904
  · rw [if_pos c2] at H
    have c2b0 : (t157 == 1904) = true := beq_iff_eq.mpr c2
    have c2b1 : (t157 != 1904) = false := bne_eq_false_iff_eq.mpr c2
    clear c2
    replace H := Option.bind_eq_some_iff.mp H
    obtain ⟨t158, A30, H⟩ := H
    replace H : (if t158 = 1905 then ((peloruslaw0_Num.f 1906).bind fun t159 => (if t159 = 1906 then ((peloruslaw0_Num.f 1907).bind fun t160 => (if t160 = 1907 then ((peloruslaw0_Num.f 1908).bind fun t161 => (if t161 = 1908 then ((peloruslaw0_Num.f 1909).bind fun t162 => (if t162 = 1909 then ((peloruslaw0_Num.f 1910).bind fun t163 => (if t163 = 1910 then ((peloruslaw0_Num.f 2000).bind fun t164 => (if t164 = 2000 then ((peloruslaw0_Num.f 2001).bind fun t165 => (if t165 = 2001 then ((peloruslaw0_Num.f 2100).bind fun t166 => (if t166 = 2100 then ((peloruslaw0_Num.f 2101).bind fun t167 => (if t167 = 2101 then ((peloruslaw0_Num.f 2102).bind fun t168 => (if t168 = 2102 then ((peloruslaw0_Num.f 2103).bind fun t169 => (if t169 = 2103 then ((peloruslaw0_Num.f 2104).bind fun t170 => (some (t170 == 2104))) else (some false))) else (some false))) else (some false))) else (some false))) else (some false))) else (some false))) else (some false))) else (some false))) else (some false))) else (some false))) else (some false))) else (some false)) = some r := H
    have A3 := Aside0.mk A30
    clear A30
    by_cases c4 : t158 = 1905
    · rw [if_pos c4] at H
      have c4b0 : (t158 == 1905) = true := beq_iff_eq.mpr c4
      have c4b1 : (t158 != 1905) = false := bne_eq_false_iff_eq.mpr c4
      clear c4
      replace H := Option.bind_eq_some_iff.mp H
      obtain ⟨t159, A50, H⟩ := H
      replace H : (if t159 = 1906 then ((peloruslaw0_Num.f 1907).bind fun t160 => (if t160 = 1907 then ((peloruslaw0_Num.f 1908).bind fun t161 => (if t161 = 1908 then ((peloruslaw0_Num.f 1909).bind fun t162 => (if t162 = 1909 then ((peloruslaw0_Num.f 1910).bind fun t163 => (if t163 = 1910 then ((peloruslaw0_Num.f 2000).bind fun t164 => (if t164 = 2000 then ((peloruslaw0_Num.f 2001).bind fun t165 => (if t165 = 2001 then ((peloruslaw0_Num.f 2100).bind fun t166 => (if t166 = 2100 then ((peloruslaw0_Num.f 2101).bind fun t167 => (if t167 = 2101 then ((peloruslaw0_Num.f 2102).bind fun t168 => (if t168 = 2102 then ((peloruslaw0_Num.f 2103).bind fun t169 => (if t169 = 2103 then ((peloruslaw0_Num.f 2104).bind fun t170 => (some (t170 == 2104))) else (some false))) else (some false))) else (some false))) else (some false))) else (some false))) else (some false))) else (some false))) else (some false))) else (some false))) else (some false))) else (some false)) = some r := H
      have A5 := Aside0.mk A50
      clear A50
      by_cases c6 : t159 = 1906
      · rw [if_pos c6] at H
        have c6b0 : (t159 == 1906) = true := beq_iff_eq.mpr c6
        have c6b1 : (t159 != 1906) = false := bne_eq_false_iff_eq.mpr c6
        clear c6
        replace H := Option.bind_eq_some_iff.mp H
        obtain ⟨t160, A70, H⟩ := H
        replace H : (if t160 = 1907 then ((peloruslaw0_Num.f 1908).bind fun t161 => (if t161 = 1908 then ((peloruslaw0_Num.f 1909).bind fun t162 => (if t162 = 1909 then ((peloruslaw0_Num.f 1910).bind fun t163 => (if t163 = 1910 then ((peloruslaw0_Num.f 2000).bind fun t164 => (if t164 = 2000 then ((peloruslaw0_Num.f 2001).bind fun t165 => (if t165 = 2001 then ((peloruslaw0_Num.f 2100).bind fun t166 => (if t166 = 2100 then ((peloruslaw0_Num.f 2101).bind fun t167 => (if t167 = 2101 then ((peloruslaw0_Num.f 2102).bind fun t168 => (if t168 = 2102 then ((peloruslaw0_Num.f 2103).bind fun t169 => (if t169 = 2103 then ((peloruslaw0_Num.f 2104).bind fun t170 => (some (t170 == 2104))) else (some false))) else (some false))) else (some false))) else (some false))) else (some false))) else (some false))) else (some false))) else (some false))) else (some false))) else (some false)) = some r := H
        have A7 := Aside0.mk A70
        clear A70
        by_cases c8 : t160 = 1907
        · rw [if_pos c8] at H
          have c8b0 : (t160 == 1907) = true := beq_iff_eq.mpr c8
          have c8b1 : (t160 != 1907) = false := bne_eq_false_iff_eq.mpr c8
          clear c8
          replace H := Option.bind_eq_some_iff.mp H
          obtain ⟨t161, A90, H⟩ := H
          replace H : (if t161 = 1908 then ((peloruslaw0_Num.f 1909).bind fun t162 => (if t162 = 1909 then ((peloruslaw0_Num.f 1910).bind fun t163 => (if t163 = 1910 then ((peloruslaw0_Num.f 2000).bind fun t164 => (if t164 = 2000 then ((peloruslaw0_Num.f 2001).bind fun t165 => (if t165 = 2001 then ((peloruslaw0_Num.f 2100).bind fun t166 => (if t166 = 2100 then ((peloruslaw0_Num.f 2101).bind fun t167 => (if t167 = 2101 then ((peloruslaw0_Num.f 2102).bind fun t168 => (if t168 = 2102 then ((peloruslaw0_Num.f 2103).bind fun t169 => (if t169 = 2103 then ((peloruslaw0_Num.f 2104).bind fun t170 => (some (t170 == 2104))) else (some false))) else (some false))) else (some false))) else (some false))) else (some false))) else (some false))) else (some false))) else (some false))) else (some false)) = some r := H
          have A9 := Aside0.mk A90
          clear A90
          by_cases c10 : t161 = 1908
          · rw [if_pos c10] at H
            have c10b0 : (t161 == 1908) = true := beq_iff_eq.mpr c10
            have c10b1 : (t161 != 1908) = false := bne_eq_false_iff_eq.mpr c10
            clear c10
            replace H := Option.bind_eq_some_iff.mp H
            obtain ⟨t162, A110, H⟩ := H
            replace H : (if t162 = 1909 then ((peloruslaw0_Num.f 1910).bind fun t163 => (if t163 = 1910 then ((peloruslaw0_Num.f 2000).bind fun t164 => (if t164 = 2000 then ((peloruslaw0_Num.f 2001).bind fun t165 => (if t165 = 2001 then ((peloruslaw0_Num.f 2100).bind fun t166 => (if t166 = 2100 then ((peloruslaw0_Num.f 2101).bind fun t167 => (if t167 = 2101 then ((peloruslaw0_Num.f 2102).bind fun t168 => (if t168 = 2102 then ((peloruslaw0_Num.f 2103).bind fun t169 => (if t169 = 2103 then ((peloruslaw0_Num.f 2104).bind fun t170 => (some (t170 == 2104))) else (some false))) else (some false))) else (some false))) else (some false))) else (some false))) else (some false))) else (some false))) else (some false)) = some r := H
            have A11 := Aside0.mk A110
            clear A110
            by_cases c12 : t162 = 1909
            · rw [if_pos c12] at H
              have c12b0 : (t162 == 1909) = true := beq_iff_eq.mpr c12
              have c12b1 : (t162 != 1909) = false := bne_eq_false_iff_eq.mpr c12
              clear c12
              replace H := Option.bind_eq_some_iff.mp H
              obtain ⟨t163, A130, H⟩ := H
              replace H : (if t163 = 1910 then ((peloruslaw0_Num.f 2000).bind fun t164 => (if t164 = 2000 then ((peloruslaw0_Num.f 2001).bind fun t165 => (if t165 = 2001 then ((peloruslaw0_Num.f 2100).bind fun t166 => (if t166 = 2100 then ((peloruslaw0_Num.f 2101).bind fun t167 => (if t167 = 2101 then ((peloruslaw0_Num.f 2102).bind fun t168 => (if t168 = 2102 then ((peloruslaw0_Num.f 2103).bind fun t169 => (if t169 = 2103 then ((peloruslaw0_Num.f 2104).bind fun t170 => (some (t170 == 2104))) else (some false))) else (some false))) else (some false))) else (some false))) else (some false))) else (some false))) else (some false)) = some r := H
              have A13 := Aside0.mk A130
              clear A130
              by_cases c14 : t163 = 1910
              · rw [if_pos c14] at H
                have c14b0 : (t163 == 1910) = true := beq_iff_eq.mpr c14
                have c14b1 : (t163 != 1910) = false := bne_eq_false_iff_eq.mpr c14
                clear c14
                replace H := Option.bind_eq_some_iff.mp H
                obtain ⟨t164, A150, H⟩ := H
                replace H : (if t164 = 2000 then ((peloruslaw0_Num.f 2001).bind fun t165 => (if t165 = 2001 then ((peloruslaw0_Num.f 2100).bind fun t166 => (if t166 = 2100 then ((peloruslaw0_Num.f 2101).bind fun t167 => (if t167 = 2101 then ((peloruslaw0_Num.f 2102).bind fun t168 => (if t168 = 2102 then ((peloruslaw0_Num.f 2103).bind fun t169 => (if t169 = 2103 then ((peloruslaw0_Num.f 2104).bind fun t170 => (some (t170 == 2104))) else (some false))) else (some false))) else (some false))) else (some false))) else (some false))) else (some false)) = some r := H
                have A15 := Aside0.mk A150
                clear A150
                by_cases c16 : t164 = 2000
                · rw [if_pos c16] at H
                  have c16b0 : (t164 == 2000) = true := beq_iff_eq.mpr c16
                  have c16b1 : (t164 != 2000) = false := bne_eq_false_iff_eq.mpr c16
                  clear c16
                  replace H := Option.bind_eq_some_iff.mp H
                  obtain ⟨t165, A170, H⟩ := H
                  replace H : (if t165 = 2001 then ((peloruslaw0_Num.f 2100).bind fun t166 => (if t166 = 2100 then ((peloruslaw0_Num.f 2101).bind fun t167 => (if t167 = 2101 then ((peloruslaw0_Num.f 2102).bind fun t168 => (if t168 = 2102 then ((peloruslaw0_Num.f 2103).bind fun t169 => (if t169 = 2103 then ((peloruslaw0_Num.f 2104).bind fun t170 => (some (t170 == 2104))) else (some false))) else (some false))) else (some false))) else (some false))) else (some false)) = some r := H
                  have A17 := Aside0.mk A170
                  clear A170
                  by_cases c18 : t165 = 2001
                  · rw [if_pos c18] at H
                    have c18b0 : (t165 == 2001) = true := beq_iff_eq.mpr c18
                    have c18b1 : (t165 != 2001) = false := bne_eq_false_iff_eq.mpr c18
                    clear c18
                    replace H := Option.bind_eq_some_iff.mp H
                    obtain ⟨t166, A190, H⟩ := H
                    replace H : (if t166 = 2100 then ((peloruslaw0_Num.f 2101).bind fun t167 => (if t167 = 2101 then ((peloruslaw0_Num.f 2102).bind fun t168 => (if t168 = 2102 then ((peloruslaw0_Num.f 2103).bind fun t169 => (if t169 = 2103 then ((peloruslaw0_Num.f 2104).bind fun t170 => (some (t170 == 2104))) else (some false))) else (some false))) else (some false))) else (some false)) = some r := H
                    have A19 := Aside0.mk A190
                    clear A190
                    by_cases c20 : t166 = 2100
                    · rw [if_pos c20] at H
                      have c20b0 : (t166 == 2100) = true := beq_iff_eq.mpr c20
                      have c20b1 : (t166 != 2100) = false := bne_eq_false_iff_eq.mpr c20
                      clear c20
                      replace H := Option.bind_eq_some_iff.mp H
                      obtain ⟨t167, A210, H⟩ := H
                      replace H : (if t167 = 2101 then ((peloruslaw0_Num.f 2102).bind fun t168 => (if t168 = 2102 then ((peloruslaw0_Num.f 2103).bind fun t169 => (if t169 = 2103 then ((peloruslaw0_Num.f 2104).bind fun t170 => (some (t170 == 2104))) else (some false))) else (some false))) else (some false)) = some r := H
                      have A21 := Aside0.mk A210
                      clear A210
                      by_cases c22 : t167 = 2101
                      · rw [if_pos c22] at H
                        have c22b0 : (t167 == 2101) = true := beq_iff_eq.mpr c22
                        have c22b1 : (t167 != 2101) = false := bne_eq_false_iff_eq.mpr c22
                        clear c22
                        replace H := Option.bind_eq_some_iff.mp H
                        obtain ⟨t168, A230, H⟩ := H
                        replace H : (if t168 = 2102 then ((peloruslaw0_Num.f 2103).bind fun t169 => (if t169 = 2103 then ((peloruslaw0_Num.f 2104).bind fun t170 => (some (t170 == 2104))) else (some false))) else (some false)) = some r := H
                        have A23 := Aside0.mk A230
                        clear A230
                        by_cases c24 : t168 = 2102
                        · rw [if_pos c24] at H
                          have c24b0 : (t168 == 2102) = true := beq_iff_eq.mpr c24
                          have c24b1 : (t168 != 2102) = false := bne_eq_false_iff_eq.mpr c24
                          clear c24
                          replace H := Option.bind_eq_some_iff.mp H
                          obtain ⟨t169, A250, H⟩ := H
                          replace H : (if t169 = 2103 then ((peloruslaw0_Num.f 2104).bind fun t170 => (some (t170 == 2104))) else (some false)) = some r := H
                          have A25 := Aside0.mk A250
                          clear A250
                          by_cases c26 : t169 = 2103
                          · rw [if_pos c26] at H
                            have c26b0 : (t169 == 2103) = true := beq_iff_eq.mpr c26
                            have c26b1 : (t169 != 2103) = false := bne_eq_false_iff_eq.mpr c26
                            clear c26
                            replace H := Option.bind_eq_some_iff.mp H
                            obtain ⟨t170, A270, H⟩ := H
                            replace H : (some (t170 == 2104)) = some r := H
                            have A27 := Aside0.mk A270
                            clear A270
                            obtain rfl := Option.some.inj H
                            go_enter Try.func15, Try.ntmps15
                            go_wp2_with (first | ((with_reducible refine gate_callee (f := 28) rfl ?_); refine goesL_ (some 1) rfl rfl Try.func28 (by kernel_rfl) rfl #[.int .i64 1904] rfl (by (try simp only [List.map_toArray, List.map_cons, List.map_nil]); first | done | rfl | (simp only [List.length_drop, List.length_take]; rfl)) ?_; (with_reducible refine (peloruslaw0_Num.calls 1904 t157 _ A1.out).mono ?_); rintro e w' ⟨rfl, ⟨nd, rfl⟩⟩; refine ⟨_, rfl, ?_⟩) | (go_at_call 28; (with_reducible refine (peloruslaw0_Num.calls 1905 t158 _ A3.out).mono ?_); rintro e w' ⟨rfl, ⟨nd, rfl⟩⟩) | (go_at_call 28; (with_reducible refine (peloruslaw0_Num.calls 1906 t159 _ A5.out).mono ?_); rintro e w' ⟨rfl, ⟨nd, rfl⟩⟩) | (go_at_call 28; (with_reducible refine (peloruslaw0_Num.calls 1907 t160 _ A7.out).mono ?_); rintro e w' ⟨rfl, ⟨nd, rfl⟩⟩) | (go_at_call 28; (with_reducible refine (peloruslaw0_Num.calls 1908 t161 _ A9.out).mono ?_); rintro e w' ⟨rfl, ⟨nd, rfl⟩⟩) | (go_at_call 28; (with_reducible refine (peloruslaw0_Num.calls 1909 t162 _ A11.out).mono ?_); rintro e w' ⟨rfl, ⟨nd, rfl⟩⟩) | (go_at_call 28; (with_reducible refine (peloruslaw0_Num.calls 1910 t163 _ A13.out).mono ?_); rintro e w' ⟨rfl, ⟨nd, rfl⟩⟩) | (go_at_call 28; (with_reducible refine (peloruslaw0_Num.calls 2000 t164 _ A15.out).mono ?_); rintro e w' ⟨rfl, ⟨nd, rfl⟩⟩) | (go_at_call 28; (with_reducible refine (peloruslaw0_Num.calls 2001 t165 _ A17.out).mono ?_); rintro e w' ⟨rfl, ⟨nd, rfl⟩⟩) | (go_at_call 28; (with_reducible refine (peloruslaw0_Num.calls 2100 t166 _ A19.out).mono ?_); rintro e w' ⟨rfl, ⟨nd, rfl⟩⟩) | (go_at_call 28; (with_reducible refine (peloruslaw0_Num.calls 2101 t167 _ A21.out).mono ?_); rintro e w' ⟨rfl, ⟨nd, rfl⟩⟩) | (go_at_call 28; (with_reducible refine (peloruslaw0_Num.calls 2102 t168 _ A23.out).mono ?_); rintro e w' ⟨rfl, ⟨nd, rfl⟩⟩) | (go_at_call 28; (with_reducible refine (peloruslaw0_Num.calls 2103 t169 _ A25.out).mono ?_); rintro e w' ⟨rfl, ⟨nd, rfl⟩⟩) | (go_at_call 28; (with_reducible refine (peloruslaw0_Num.calls 2104 t170 _ A27.out).mono ?_); rintro e w' ⟨rfl, ⟨nd, rfl⟩⟩))
                            go_ret
                            exact ⟨by first | rfl | (simp; done) | (simp [*]; done), by repeat (first | exact Drawn0.refl _ | apply Drawn0.step)⟩
                          · rw [if_neg c26] at H
                            have c26b0 : (t169 == 2103) = false := beq_eq_false_iff_ne.mpr c26
                            have c26b1 : (t169 != 2103) = true := bne_iff_ne.mpr c26
                            obtain rfl := Option.some.inj H
                            go_enter Try.func15, Try.ntmps15
                            go_wp2_with (first | ((with_reducible refine gate_callee (f := 28) rfl ?_); refine goesL_ (some 1) rfl rfl Try.func28 (by kernel_rfl) rfl #[.int .i64 1904] rfl (by (try simp only [List.map_toArray, List.map_cons, List.map_nil]); first | done | rfl | (simp only [List.length_drop, List.length_take]; rfl)) ?_; (with_reducible refine (peloruslaw0_Num.calls 1904 t157 _ A1.out).mono ?_); rintro e w' ⟨rfl, ⟨nd, rfl⟩⟩; refine ⟨_, rfl, ?_⟩) | (go_at_call 28; (with_reducible refine (peloruslaw0_Num.calls 1905 t158 _ A3.out).mono ?_); rintro e w' ⟨rfl, ⟨nd, rfl⟩⟩) | (go_at_call 28; (with_reducible refine (peloruslaw0_Num.calls 1906 t159 _ A5.out).mono ?_); rintro e w' ⟨rfl, ⟨nd, rfl⟩⟩) | (go_at_call 28; (with_reducible refine (peloruslaw0_Num.calls 1907 t160 _ A7.out).mono ?_); rintro e w' ⟨rfl, ⟨nd, rfl⟩⟩) | (go_at_call 28; (with_reducible refine (peloruslaw0_Num.calls 1908 t161 _ A9.out).mono ?_); rintro e w' ⟨rfl, ⟨nd, rfl⟩⟩) | (go_at_call 28; (with_reducible refine (peloruslaw0_Num.calls 1909 t162 _ A11.out).mono ?_); rintro e w' ⟨rfl, ⟨nd, rfl⟩⟩) | (go_at_call 28; (with_reducible refine (peloruslaw0_Num.calls 1910 t163 _ A13.out).mono ?_); rintro e w' ⟨rfl, ⟨nd, rfl⟩⟩) | (go_at_call 28; (with_reducible refine (peloruslaw0_Num.calls 2000 t164 _ A15.out).mono ?_); rintro e w' ⟨rfl, ⟨nd, rfl⟩⟩) | (go_at_call 28; (with_reducible refine (peloruslaw0_Num.calls 2001 t165 _ A17.out).mono ?_); rintro e w' ⟨rfl, ⟨nd, rfl⟩⟩) | (go_at_call 28; (with_reducible refine (peloruslaw0_Num.calls 2100 t166 _ A19.out).mono ?_); rintro e w' ⟨rfl, ⟨nd, rfl⟩⟩) | (go_at_call 28; (with_reducible refine (peloruslaw0_Num.calls 2101 t167 _ A21.out).mono ?_); rintro e w' ⟨rfl, ⟨nd, rfl⟩⟩) | (go_at_call 28; (with_reducible refine (peloruslaw0_Num.calls 2102 t168 _ A23.out).mono ?_); rintro e w' ⟨rfl, ⟨nd, rfl⟩⟩) | (go_at_call 28; (with_reducible refine (peloruslaw0_Num.calls 2103 t169 _ A25.out).mono ?_); rintro e w' ⟨rfl, ⟨nd, rfl⟩⟩))
                            go_ret
                            exact ⟨by first | rfl | (simp; done) | (simp [*]; done), by repeat (first | exact Drawn0.refl _ | apply Drawn0.step)⟩
                        · rw [if_neg c24] at H
                          have c24b0 : (t168 == 2102) = false := beq_eq_false_iff_ne.mpr c24
                          have c24b1 : (t168 != 2102) = true := bne_iff_ne.mpr c24
                          obtain rfl := Option.some.inj H
                          go_enter Try.func15, Try.ntmps15
                          go_wp2_with (first | ((with_reducible refine gate_callee (f := 28) rfl ?_); refine goesL_ (some 1) rfl rfl Try.func28 (by kernel_rfl) rfl #[.int .i64 1904] rfl (by (try simp only [List.map_toArray, List.map_cons, List.map_nil]); first | done | rfl | (simp only [List.length_drop, List.length_take]; rfl)) ?_; (with_reducible refine (peloruslaw0_Num.calls 1904 t157 _ A1.out).mono ?_); rintro e w' ⟨rfl, ⟨nd, rfl⟩⟩; refine ⟨_, rfl, ?_⟩) | (go_at_call 28; (with_reducible refine (peloruslaw0_Num.calls 1905 t158 _ A3.out).mono ?_); rintro e w' ⟨rfl, ⟨nd, rfl⟩⟩) | (go_at_call 28; (with_reducible refine (peloruslaw0_Num.calls 1906 t159 _ A5.out).mono ?_); rintro e w' ⟨rfl, ⟨nd, rfl⟩⟩) | (go_at_call 28; (with_reducible refine (peloruslaw0_Num.calls 1907 t160 _ A7.out).mono ?_); rintro e w' ⟨rfl, ⟨nd, rfl⟩⟩) | (go_at_call 28; (with_reducible refine (peloruslaw0_Num.calls 1908 t161 _ A9.out).mono ?_); rintro e w' ⟨rfl, ⟨nd, rfl⟩⟩) | (go_at_call 28; (with_reducible refine (peloruslaw0_Num.calls 1909 t162 _ A11.out).mono ?_); rintro e w' ⟨rfl, ⟨nd, rfl⟩⟩) | (go_at_call 28; (with_reducible refine (peloruslaw0_Num.calls 1910 t163 _ A13.out).mono ?_); rintro e w' ⟨rfl, ⟨nd, rfl⟩⟩) | (go_at_call 28; (with_reducible refine (peloruslaw0_Num.calls 2000 t164 _ A15.out).mono ?_); rintro e w' ⟨rfl, ⟨nd, rfl⟩⟩) | (go_at_call 28; (with_reducible refine (peloruslaw0_Num.calls 2001 t165 _ A17.out).mono ?_); rintro e w' ⟨rfl, ⟨nd, rfl⟩⟩) | (go_at_call 28; (with_reducible refine (peloruslaw0_Num.calls 2100 t166 _ A19.out).mono ?_); rintro e w' ⟨rfl, ⟨nd, rfl⟩⟩) | (go_at_call 28; (with_reducible refine (peloruslaw0_Num.calls 2101 t167 _ A21.out).mono ?_); rintro e w' ⟨rfl, ⟨nd, rfl⟩⟩) | (go_at_call 28; (with_reducible refine (peloruslaw0_Num.calls 2102 t168 _ A23.out).mono ?_); rintro e w' ⟨rfl, ⟨nd, rfl⟩⟩))
                          go_ret
                          exact ⟨by first | rfl | (simp; done) | (simp [*]; done), by repeat (first | exact Drawn0.refl _ | apply Drawn0.step)⟩
                      · rw [if_neg c22] at H
                        have c22b0 : (t167 == 2101) = false := beq_eq_false_iff_ne.mpr c22
                        have c22b1 : (t167 != 2101) = true := bne_iff_ne.mpr c22
                        obtain rfl := Option.some.inj H
                        go_enter Try.func15, Try.ntmps15
                        go_wp2_with (first | ((with_reducible refine gate_callee (f := 28) rfl ?_); refine goesL_ (some 1) rfl rfl Try.func28 (by kernel_rfl) rfl #[.int .i64 1904] rfl (by (try simp only [List.map_toArray, List.map_cons, List.map_nil]); first | done | rfl | (simp only [List.length_drop, List.length_take]; rfl)) ?_; (with_reducible refine (peloruslaw0_Num.calls 1904 t157 _ A1.out).mono ?_); rintro e w' ⟨rfl, ⟨nd, rfl⟩⟩; refine ⟨_, rfl, ?_⟩) | (go_at_call 28; (with_reducible refine (peloruslaw0_Num.calls 1905 t158 _ A3.out).mono ?_); rintro e w' ⟨rfl, ⟨nd, rfl⟩⟩) | (go_at_call 28; (with_reducible refine (peloruslaw0_Num.calls 1906 t159 _ A5.out).mono ?_); rintro e w' ⟨rfl, ⟨nd, rfl⟩⟩) | (go_at_call 28; (with_reducible refine (peloruslaw0_Num.calls 1907 t160 _ A7.out).mono ?_); rintro e w' ⟨rfl, ⟨nd, rfl⟩⟩) | (go_at_call 28; (with_reducible refine (peloruslaw0_Num.calls 1908 t161 _ A9.out).mono ?_); rintro e w' ⟨rfl, ⟨nd, rfl⟩⟩) | (go_at_call 28; (with_reducible refine (peloruslaw0_Num.calls 1909 t162 _ A11.out).mono ?_); rintro e w' ⟨rfl, ⟨nd, rfl⟩⟩) | (go_at_call 28; (with_reducible refine (peloruslaw0_Num.calls 1910 t163 _ A13.out).mono ?_); rintro e w' ⟨rfl, ⟨nd, rfl⟩⟩) | (go_at_call 28; (with_reducible refine (peloruslaw0_Num.calls 2000 t164 _ A15.out).mono ?_); rintro e w' ⟨rfl, ⟨nd, rfl⟩⟩) | (go_at_call 28; (with_reducible refine (peloruslaw0_Num.calls 2001 t165 _ A17.out).mono ?_); rintro e w' ⟨rfl, ⟨nd, rfl⟩⟩) | (go_at_call 28; (with_reducible refine (peloruslaw0_Num.calls 2100 t166 _ A19.out).mono ?_); rintro e w' ⟨rfl, ⟨nd, rfl⟩⟩) | (go_at_call 28; (with_reducible refine (peloruslaw0_Num.calls 2101 t167 _ A21.out).mono ?_); rintro e w' ⟨rfl, ⟨nd, rfl⟩⟩))
                        go_ret
                        exact ⟨by first | rfl | (simp; done) | (simp [*]; done), by repeat (first | exact Drawn0.refl _ | apply Drawn0.step)⟩
                    · rw [if_neg c20] at H
                      have c20b0 : (t166 == 2100) = false := beq_eq_false_iff_ne.mpr c20
                      have c20b1 : (t166 != 2100) = true := bne_iff_ne.mpr c20
                      obtain rfl := Option.some.inj H
                      go_enter Try.func15, Try.ntmps15
                      go_wp2_with (first | ((with_reducible refine gate_callee (f := 28) rfl ?_); refine goesL_ (some 1) rfl rfl Try.func28 (by kernel_rfl) rfl #[.int .i64 1904] rfl (by (try simp only [List.map_toArray, List.map_cons, List.map_nil]); first | done | rfl | (simp only [List.length_drop, List.length_take]; rfl)) ?_; (with_reducible refine (peloruslaw0_Num.calls 1904 t157 _ A1.out).mono ?_); rintro e w' ⟨rfl, ⟨nd, rfl⟩⟩; refine ⟨_, rfl, ?_⟩) | (go_at_call 28; (with_reducible refine (peloruslaw0_Num.calls 1905 t158 _ A3.out).mono ?_); rintro e w' ⟨rfl, ⟨nd, rfl⟩⟩) | (go_at_call 28; (with_reducible refine (peloruslaw0_Num.calls 1906 t159 _ A5.out).mono ?_); rintro e w' ⟨rfl, ⟨nd, rfl⟩⟩) | (go_at_call 28; (with_reducible refine (peloruslaw0_Num.calls 1907 t160 _ A7.out).mono ?_); rintro e w' ⟨rfl, ⟨nd, rfl⟩⟩) | (go_at_call 28; (with_reducible refine (peloruslaw0_Num.calls 1908 t161 _ A9.out).mono ?_); rintro e w' ⟨rfl, ⟨nd, rfl⟩⟩) | (go_at_call 28; (with_reducible refine (peloruslaw0_Num.calls 1909 t162 _ A11.out).mono ?_); rintro e w' ⟨rfl, ⟨nd, rfl⟩⟩) | (go_at_call 28; (with_reducible refine (peloruslaw0_Num.calls 1910 t163 _ A13.out).mono ?_); rintro e w' ⟨rfl, ⟨nd, rfl⟩⟩) | (go_at_call 28; (with_reducible refine (peloruslaw0_Num.calls 2000 t164 _ A15.out).mono ?_); rintro e w' ⟨rfl, ⟨nd, rfl⟩⟩) | (go_at_call 28; (with_reducible refine (peloruslaw0_Num.calls 2001 t165 _ A17.out).mono ?_); rintro e w' ⟨rfl, ⟨nd, rfl⟩⟩) | (go_at_call 28; (with_reducible refine (peloruslaw0_Num.calls 2100 t166 _ A19.out).mono ?_); rintro e w' ⟨rfl, ⟨nd, rfl⟩⟩))
                      go_ret
                      exact ⟨by first | rfl | (simp; done) | (simp [*]; done), by repeat (first | exact Drawn0.refl _ | apply Drawn0.step)⟩
                  · rw [if_neg c18] at H
                    have c18b0 : (t165 == 2001) = false := beq_eq_false_iff_ne.mpr c18
                    have c18b1 : (t165 != 2001) = true := bne_iff_ne.mpr c18
                    obtain rfl := Option.some.inj H
                    go_enter Try.func15, Try.ntmps15
                    go_wp2_with (first | ((with_reducible refine gate_callee (f := 28) rfl ?_); refine goesL_ (some 1) rfl rfl Try.func28 (by kernel_rfl) rfl #[.int .i64 1904] rfl (by (try simp only [List.map_toArray, List.map_cons, List.map_nil]); first | done | rfl | (simp only [List.length_drop, List.length_take]; rfl)) ?_; (with_reducible refine (peloruslaw0_Num.calls 1904 t157 _ A1.out).mono ?_); rintro e w' ⟨rfl, ⟨nd, rfl⟩⟩; refine ⟨_, rfl, ?_⟩) | (go_at_call 28; (with_reducible refine (peloruslaw0_Num.calls 1905 t158 _ A3.out).mono ?_); rintro e w' ⟨rfl, ⟨nd, rfl⟩⟩) | (go_at_call 28; (with_reducible refine (peloruslaw0_Num.calls 1906 t159 _ A5.out).mono ?_); rintro e w' ⟨rfl, ⟨nd, rfl⟩⟩) | (go_at_call 28; (with_reducible refine (peloruslaw0_Num.calls 1907 t160 _ A7.out).mono ?_); rintro e w' ⟨rfl, ⟨nd, rfl⟩⟩) | (go_at_call 28; (with_reducible refine (peloruslaw0_Num.calls 1908 t161 _ A9.out).mono ?_); rintro e w' ⟨rfl, ⟨nd, rfl⟩⟩) | (go_at_call 28; (with_reducible refine (peloruslaw0_Num.calls 1909 t162 _ A11.out).mono ?_); rintro e w' ⟨rfl, ⟨nd, rfl⟩⟩) | (go_at_call 28; (with_reducible refine (peloruslaw0_Num.calls 1910 t163 _ A13.out).mono ?_); rintro e w' ⟨rfl, ⟨nd, rfl⟩⟩) | (go_at_call 28; (with_reducible refine (peloruslaw0_Num.calls 2000 t164 _ A15.out).mono ?_); rintro e w' ⟨rfl, ⟨nd, rfl⟩⟩) | (go_at_call 28; (with_reducible refine (peloruslaw0_Num.calls 2001 t165 _ A17.out).mono ?_); rintro e w' ⟨rfl, ⟨nd, rfl⟩⟩))
                    go_ret
                    exact ⟨by first | rfl | (simp; done) | (simp [*]; done), by repeat (first | exact Drawn0.refl _ | apply Drawn0.step)⟩
                · rw [if_neg c16] at H
                  have c16b0 : (t164 == 2000) = false := beq_eq_false_iff_ne.mpr c16
                  have c16b1 : (t164 != 2000) = true := bne_iff_ne.mpr c16
                  obtain rfl := Option.some.inj H
                  go_enter Try.func15, Try.ntmps15
                  go_wp2_with (first | ((with_reducible refine gate_callee (f := 28) rfl ?_); refine goesL_ (some 1) rfl rfl Try.func28 (by kernel_rfl) rfl #[.int .i64 1904] rfl (by (try simp only [List.map_toArray, List.map_cons, List.map_nil]); first | done | rfl | (simp only [List.length_drop, List.length_take]; rfl)) ?_; (with_reducible refine (peloruslaw0_Num.calls 1904 t157 _ A1.out).mono ?_); rintro e w' ⟨rfl, ⟨nd, rfl⟩⟩; refine ⟨_, rfl, ?_⟩) | (go_at_call 28; (with_reducible refine (peloruslaw0_Num.calls 1905 t158 _ A3.out).mono ?_); rintro e w' ⟨rfl, ⟨nd, rfl⟩⟩) | (go_at_call 28; (with_reducible refine (peloruslaw0_Num.calls 1906 t159 _ A5.out).mono ?_); rintro e w' ⟨rfl, ⟨nd, rfl⟩⟩) | (go_at_call 28; (with_reducible refine (peloruslaw0_Num.calls 1907 t160 _ A7.out).mono ?_); rintro e w' ⟨rfl, ⟨nd, rfl⟩⟩) | (go_at_call 28; (with_reducible refine (peloruslaw0_Num.calls 1908 t161 _ A9.out).mono ?_); rintro e w' ⟨rfl, ⟨nd, rfl⟩⟩) | (go_at_call 28; (with_reducible refine (peloruslaw0_Num.calls 1909 t162 _ A11.out).mono ?_); rintro e w' ⟨rfl, ⟨nd, rfl⟩⟩) | (go_at_call 28; (with_reducible refine (peloruslaw0_Num.calls 1910 t163 _ A13.out).mono ?_); rintro e w' ⟨rfl, ⟨nd, rfl⟩⟩) | (go_at_call 28; (with_reducible refine (peloruslaw0_Num.calls 2000 t164 _ A15.out).mono ?_); rintro e w' ⟨rfl, ⟨nd, rfl⟩⟩))
                  go_ret
                  exact ⟨by first | rfl | (simp; done) | (simp [*]; done), by repeat (first | exact Drawn0.refl _ | apply Drawn0.step)⟩
              · rw [if_neg c14] at H
                have c14b0 : (t163 == 1910) = false := beq_eq_false_iff_ne.mpr c14
                have c14b1 : (t163 != 1910) = true := bne_iff_ne.mpr c14
                obtain rfl := Option.some.inj H
                go_enter Try.func15, Try.ntmps15
                go_wp2_with (first | ((with_reducible refine gate_callee (f := 28) rfl ?_); refine goesL_ (some 1) rfl rfl Try.func28 (by kernel_rfl) rfl #[.int .i64 1904] rfl (by (try simp only [List.map_toArray, List.map_cons, List.map_nil]); first | done | rfl | (simp only [List.length_drop, List.length_take]; rfl)) ?_; (with_reducible refine (peloruslaw0_Num.calls 1904 t157 _ A1.out).mono ?_); rintro e w' ⟨rfl, ⟨nd, rfl⟩⟩; refine ⟨_, rfl, ?_⟩) | (go_at_call 28; (with_reducible refine (peloruslaw0_Num.calls 1905 t158 _ A3.out).mono ?_); rintro e w' ⟨rfl, ⟨nd, rfl⟩⟩) | (go_at_call 28; (with_reducible refine (peloruslaw0_Num.calls 1906 t159 _ A5.out).mono ?_); rintro e w' ⟨rfl, ⟨nd, rfl⟩⟩) | (go_at_call 28; (with_reducible refine (peloruslaw0_Num.calls 1907 t160 _ A7.out).mono ?_); rintro e w' ⟨rfl, ⟨nd, rfl⟩⟩) | (go_at_call 28; (with_reducible refine (peloruslaw0_Num.calls 1908 t161 _ A9.out).mono ?_); rintro e w' ⟨rfl, ⟨nd, rfl⟩⟩) | (go_at_call 28; (with_reducible refine (peloruslaw0_Num.calls 1909 t162 _ A11.out).mono ?_); rintro e w' ⟨rfl, ⟨nd, rfl⟩⟩) | (go_at_call 28; (with_reducible refine (peloruslaw0_Num.calls 1910 t163 _ A13.out).mono ?_); rintro e w' ⟨rfl, ⟨nd, rfl⟩⟩))
                go_ret
                exact ⟨by first | rfl | (simp; done) | (simp [*]; done), by repeat (first | exact Drawn0.refl _ | apply Drawn0.step)⟩
            · rw [if_neg c12] at H
              have c12b0 : (t162 == 1909) = false := beq_eq_false_iff_ne.mpr c12
              have c12b1 : (t162 != 1909) = true := bne_iff_ne.mpr c12
              obtain rfl := Option.some.inj H
              go_enter Try.func15, Try.ntmps15
              go_wp2_with (first | ((with_reducible refine gate_callee (f := 28) rfl ?_); refine goesL_ (some 1) rfl rfl Try.func28 (by kernel_rfl) rfl #[.int .i64 1904] rfl (by (try simp only [List.map_toArray, List.map_cons, List.map_nil]); first | done | rfl | (simp only [List.length_drop, List.length_take]; rfl)) ?_; (with_reducible refine (peloruslaw0_Num.calls 1904 t157 _ A1.out).mono ?_); rintro e w' ⟨rfl, ⟨nd, rfl⟩⟩; refine ⟨_, rfl, ?_⟩) | (go_at_call 28; (with_reducible refine (peloruslaw0_Num.calls 1905 t158 _ A3.out).mono ?_); rintro e w' ⟨rfl, ⟨nd, rfl⟩⟩) | (go_at_call 28; (with_reducible refine (peloruslaw0_Num.calls 1906 t159 _ A5.out).mono ?_); rintro e w' ⟨rfl, ⟨nd, rfl⟩⟩) | (go_at_call 28; (with_reducible refine (peloruslaw0_Num.calls 1907 t160 _ A7.out).mono ?_); rintro e w' ⟨rfl, ⟨nd, rfl⟩⟩) | (go_at_call 28; (with_reducible refine (peloruslaw0_Num.calls 1908 t161 _ A9.out).mono ?_); rintro e w' ⟨rfl, ⟨nd, rfl⟩⟩) | (go_at_call 28; (with_reducible refine (peloruslaw0_Num.calls 1909 t162 _ A11.out).mono ?_); rintro e w' ⟨rfl, ⟨nd, rfl⟩⟩))
              go_ret
              exact ⟨by first | rfl | (simp; done) | (simp [*]; done), by repeat (first | exact Drawn0.refl _ | apply Drawn0.step)⟩
          · rw [if_neg c10] at H
            have c10b0 : (t161 == 1908) = false := beq_eq_false_iff_ne.mpr c10
            have c10b1 : (t161 != 1908) = true := bne_iff_ne.mpr c10
            obtain rfl := Option.some.inj H
            go_enter Try.func15, Try.ntmps15
            go_wp2_with (first | ((with_reducible refine gate_callee (f := 28) rfl ?_); refine goesL_ (some 1) rfl rfl Try.func28 (by kernel_rfl) rfl #[.int .i64 1904] rfl (by (try simp only [List.map_toArray, List.map_cons, List.map_nil]); first | done | rfl | (simp only [List.length_drop, List.length_take]; rfl)) ?_; (with_reducible refine (peloruslaw0_Num.calls 1904 t157 _ A1.out).mono ?_); rintro e w' ⟨rfl, ⟨nd, rfl⟩⟩; refine ⟨_, rfl, ?_⟩) | (go_at_call 28; (with_reducible refine (peloruslaw0_Num.calls 1905 t158 _ A3.out).mono ?_); rintro e w' ⟨rfl, ⟨nd, rfl⟩⟩) | (go_at_call 28; (with_reducible refine (peloruslaw0_Num.calls 1906 t159 _ A5.out).mono ?_); rintro e w' ⟨rfl, ⟨nd, rfl⟩⟩) | (go_at_call 28; (with_reducible refine (peloruslaw0_Num.calls 1907 t160 _ A7.out).mono ?_); rintro e w' ⟨rfl, ⟨nd, rfl⟩⟩) | (go_at_call 28; (with_reducible refine (peloruslaw0_Num.calls 1908 t161 _ A9.out).mono ?_); rintro e w' ⟨rfl, ⟨nd, rfl⟩⟩))
            go_ret
            exact ⟨by first | rfl | (simp; done) | (simp [*]; done), by repeat (first | exact Drawn0.refl _ | apply Drawn0.step)⟩
        · rw [if_neg c8] at H
          have c8b0 : (t160 == 1907) = false := beq_eq_false_iff_ne.mpr c8
          have c8b1 : (t160 != 1907) = true := bne_iff_ne.mpr c8
          obtain rfl := Option.some.inj H
          go_enter Try.func15, Try.ntmps15
          go_wp2_with (first | ((with_reducible refine gate_callee (f := 28) rfl ?_); refine goesL_ (some 1) rfl rfl Try.func28 (by kernel_rfl) rfl #[.int .i64 1904] rfl (by (try simp only [List.map_toArray, List.map_cons, List.map_nil]); first | done | rfl | (simp only [List.length_drop, List.length_take]; rfl)) ?_; (with_reducible refine (peloruslaw0_Num.calls 1904 t157 _ A1.out).mono ?_); rintro e w' ⟨rfl, ⟨nd, rfl⟩⟩; refine ⟨_, rfl, ?_⟩) | (go_at_call 28; (with_reducible refine (peloruslaw0_Num.calls 1905 t158 _ A3.out).mono ?_); rintro e w' ⟨rfl, ⟨nd, rfl⟩⟩) | (go_at_call 28; (with_reducible refine (peloruslaw0_Num.calls 1906 t159 _ A5.out).mono ?_); rintro e w' ⟨rfl, ⟨nd, rfl⟩⟩) | (go_at_call 28; (with_reducible refine (peloruslaw0_Num.calls 1907 t160 _ A7.out).mono ?_); rintro e w' ⟨rfl, ⟨nd, rfl⟩⟩))
          go_ret
          exact ⟨by first | rfl | (simp; done) | (simp [*]; done), by repeat (first | exact Drawn0.refl _ | apply Drawn0.step)⟩
      · rw [if_neg c6] at H
        have c6b0 : (t159 == 1906) = false := beq_eq_false_iff_ne.mpr c6
        have c6b1 : (t159 != 1906) = true := bne_iff_ne.mpr c6
        obtain rfl := Option.some.inj H
        go_enter Try.func15, Try.ntmps15
        go_wp2_with (first | ((with_reducible refine gate_callee (f := 28) rfl ?_); refine goesL_ (some 1) rfl rfl Try.func28 (by kernel_rfl) rfl #[.int .i64 1904] rfl (by (try simp only [List.map_toArray, List.map_cons, List.map_nil]); first | done | rfl | (simp only [List.length_drop, List.length_take]; rfl)) ?_; (with_reducible refine (peloruslaw0_Num.calls 1904 t157 _ A1.out).mono ?_); rintro e w' ⟨rfl, ⟨nd, rfl⟩⟩; refine ⟨_, rfl, ?_⟩) | (go_at_call 28; (with_reducible refine (peloruslaw0_Num.calls 1905 t158 _ A3.out).mono ?_); rintro e w' ⟨rfl, ⟨nd, rfl⟩⟩) | (go_at_call 28; (with_reducible refine (peloruslaw0_Num.calls 1906 t159 _ A5.out).mono ?_); rintro e w' ⟨rfl, ⟨nd, rfl⟩⟩))
        go_ret
        exact ⟨by first | rfl | (simp; done) | (simp [*]; done), by repeat (first | exact Drawn0.refl _ | apply Drawn0.step)⟩
    · rw [if_neg c4] at H
      have c4b0 : (t158 == 1905) = false := beq_eq_false_iff_ne.mpr c4
      have c4b1 : (t158 != 1905) = true := bne_iff_ne.mpr c4
      obtain rfl := Option.some.inj H
      go_enter Try.func15, Try.ntmps15
      go_wp2_with (first | ((with_reducible refine gate_callee (f := 28) rfl ?_); refine goesL_ (some 1) rfl rfl Try.func28 (by kernel_rfl) rfl #[.int .i64 1904] rfl (by (try simp only [List.map_toArray, List.map_cons, List.map_nil]); first | done | rfl | (simp only [List.length_drop, List.length_take]; rfl)) ?_; (with_reducible refine (peloruslaw0_Num.calls 1904 t157 _ A1.out).mono ?_); rintro e w' ⟨rfl, ⟨nd, rfl⟩⟩; refine ⟨_, rfl, ?_⟩) | (go_at_call 28; (with_reducible refine (peloruslaw0_Num.calls 1905 t158 _ A3.out).mono ?_); rintro e w' ⟨rfl, ⟨nd, rfl⟩⟩))
      go_ret
      exact ⟨by first | rfl | (simp; done) | (simp [*]; done), by repeat (first | exact Drawn0.refl _ | apply Drawn0.step)⟩
  · rw [if_neg c2] at H
    have c2b0 : (t157 == 1904) = false := beq_eq_false_iff_ne.mpr c2
    have c2b1 : (t157 != 1904) = true := bne_iff_ne.mpr c2
    obtain rfl := Option.some.inj H
    go_enter Try.func15, Try.ntmps15
    go_wp2_with (first | ((with_reducible refine gate_callee (f := 28) rfl ?_); refine goesL_ (some 1) rfl rfl Try.func28 (by kernel_rfl) rfl #[.int .i64 1904] rfl (by (try simp only [List.map_toArray, List.map_cons, List.map_nil]); first | done | rfl | (simp only [List.length_drop, List.length_take]; rfl)) ?_; (with_reducible refine (peloruslaw0_Num.calls 1904 t157 _ A1.out).mono ?_); rintro e w' ⟨rfl, ⟨nd, rfl⟩⟩; refine ⟨_, rfl, ?_⟩))
    go_ret
    exact ⟨by first | rfl | (simp; done) | (simp [*]; done), by repeat (first | exact Drawn0.refl _ | apply Drawn0.step)⟩

/-! ### peloruslaw0_errors6: function 16 -/
def peloruslaw0_errors6.f  : Option (Bool) := (peloruslaw0_Num.f 2200).bind fun t171 => (if t171 = 2200 then ((peloruslaw0_Num.f 2300).bind fun t172 => (if t172 = 2300 then ((peloruslaw0_Num.f 2400).bind fun t173 => (if t173 = 2400 then ((peloruslaw0_Num.f 2500).bind fun t174 => (if t174 = 2500 then ((peloruslaw0_Num.f 2600).bind fun t175 => (if t175 = 2600 then ((peloruslaw0_Num.f 2800).bind fun t176 => (if t176 = 2800 then ((peloruslaw0_Num.f 2801).bind fun t177 => (some (t177 == 2801))) else (some false))) else (some false))) else (some false))) else (some false))) else (some false))) else (some false))
set_option maxHeartbeats 8000000 in
set_option maxRecDepth 100000 in
theorem peloruslaw0_errors6.calls  (r : Bool) (w : World) (h : peloruslaw0_errors6.f  = some r) :
    Calls Try.prog 16 #[] w fun e w' => e = .returned (.bool r) ∧ Drawn0 w w' := by
  have H : ((peloruslaw0_Num.f 2200).bind fun t171 => (if t171 = 2200 then ((peloruslaw0_Num.f 2300).bind fun t172 => (if t172 = 2300 then ((peloruslaw0_Num.f 2400).bind fun t173 => (if t173 = 2400 then ((peloruslaw0_Num.f 2500).bind fun t174 => (if t174 = 2500 then ((peloruslaw0_Num.f 2600).bind fun t175 => (if t175 = 2600 then ((peloruslaw0_Num.f 2800).bind fun t176 => (if t176 = 2800 then ((peloruslaw0_Num.f 2801).bind fun t177 => (some (t177 == 2801))) else (some false))) else (some false))) else (some false))) else (some false))) else (some false))) else (some false))) = some r := h
  clear h
  replace H := Option.bind_eq_some_iff.mp H
  obtain ⟨t171, A10, H⟩ := H
  replace H : (if t171 = 2200 then ((peloruslaw0_Num.f 2300).bind fun t172 => (if t172 = 2300 then ((peloruslaw0_Num.f 2400).bind fun t173 => (if t173 = 2400 then ((peloruslaw0_Num.f 2500).bind fun t174 => (if t174 = 2500 then ((peloruslaw0_Num.f 2600).bind fun t175 => (if t175 = 2600 then ((peloruslaw0_Num.f 2800).bind fun t176 => (if t176 = 2800 then ((peloruslaw0_Num.f 2801).bind fun t177 => (some (t177 == 2801))) else (some false))) else (some false))) else (some false))) else (some false))) else (some false))) else (some false)) = some r := H
  have A1 := Aside0.mk A10
  clear A10
  by_cases c2 : t171 = 2200
  · rw [if_pos c2] at H
    have c2b0 : (t171 == 2200) = true := beq_iff_eq.mpr c2
    have c2b1 : (t171 != 2200) = false := bne_eq_false_iff_eq.mpr c2
    clear c2
    replace H := Option.bind_eq_some_iff.mp H
    obtain ⟨t172, A30, H⟩ := H
    replace H : (if t172 = 2300 then ((peloruslaw0_Num.f 2400).bind fun t173 => (if t173 = 2400 then ((peloruslaw0_Num.f 2500).bind fun t174 => (if t174 = 2500 then ((peloruslaw0_Num.f 2600).bind fun t175 => (if t175 = 2600 then ((peloruslaw0_Num.f 2800).bind fun t176 => (if t176 = 2800 then ((peloruslaw0_Num.f 2801).bind fun t177 => (some (t177 == 2801))) else (some false))) else (some false))) else (some false))) else (some false))) else (some false)) = some r := H
    have A3 := Aside0.mk A30
    clear A30
    by_cases c4 : t172 = 2300
    · rw [if_pos c4] at H
      have c4b0 : (t172 == 2300) = true := beq_iff_eq.mpr c4
      have c4b1 : (t172 != 2300) = false := bne_eq_false_iff_eq.mpr c4
      clear c4
      replace H := Option.bind_eq_some_iff.mp H
      obtain ⟨t173, A50, H⟩ := H
      replace H : (if t173 = 2400 then ((peloruslaw0_Num.f 2500).bind fun t174 => (if t174 = 2500 then ((peloruslaw0_Num.f 2600).bind fun t175 => (if t175 = 2600 then ((peloruslaw0_Num.f 2800).bind fun t176 => (if t176 = 2800 then ((peloruslaw0_Num.f 2801).bind fun t177 => (some (t177 == 2801))) else (some false))) else (some false))) else (some false))) else (some false)) = some r := H
      have A5 := Aside0.mk A50
      clear A50
      by_cases c6 : t173 = 2400
      · rw [if_pos c6] at H
        have c6b0 : (t173 == 2400) = true := beq_iff_eq.mpr c6
        have c6b1 : (t173 != 2400) = false := bne_eq_false_iff_eq.mpr c6
        clear c6
        replace H := Option.bind_eq_some_iff.mp H
        obtain ⟨t174, A70, H⟩ := H
        replace H : (if t174 = 2500 then ((peloruslaw0_Num.f 2600).bind fun t175 => (if t175 = 2600 then ((peloruslaw0_Num.f 2800).bind fun t176 => (if t176 = 2800 then ((peloruslaw0_Num.f 2801).bind fun t177 => (some (t177 == 2801))) else (some false))) else (some false))) else (some false)) = some r := H
        have A7 := Aside0.mk A70
        clear A70
        by_cases c8 : t174 = 2500
        · rw [if_pos c8] at H
          have c8b0 : (t174 == 2500) = true := beq_iff_eq.mpr c8
          have c8b1 : (t174 != 2500) = false := bne_eq_false_iff_eq.mpr c8
          clear c8
          replace H := Option.bind_eq_some_iff.mp H
          obtain ⟨t175, A90, H⟩ := H
          replace H : (if t175 = 2600 then ((peloruslaw0_Num.f 2800).bind fun t176 => (if t176 = 2800 then ((peloruslaw0_Num.f 2801).bind fun t177 => (some (t177 == 2801))) else (some false))) else (some false)) = some r := H
          have A9 := Aside0.mk A90
          clear A90
          by_cases c10 : t175 = 2600
          · rw [if_pos c10] at H
            have c10b0 : (t175 == 2600) = true := beq_iff_eq.mpr c10
            have c10b1 : (t175 != 2600) = false := bne_eq_false_iff_eq.mpr c10
            clear c10
            replace H := Option.bind_eq_some_iff.mp H
            obtain ⟨t176, A110, H⟩ := H
            replace H : (if t176 = 2800 then ((peloruslaw0_Num.f 2801).bind fun t177 => (some (t177 == 2801))) else (some false)) = some r := H
            have A11 := Aside0.mk A110
            clear A110
            by_cases c12 : t176 = 2800
            · rw [if_pos c12] at H
              have c12b0 : (t176 == 2800) = true := beq_iff_eq.mpr c12
              have c12b1 : (t176 != 2800) = false := bne_eq_false_iff_eq.mpr c12
              clear c12
              replace H := Option.bind_eq_some_iff.mp H
              obtain ⟨t177, A130, H⟩ := H
              replace H : (some (t177 == 2801)) = some r := H
              have A13 := Aside0.mk A130
              clear A130
              obtain rfl := Option.some.inj H
              go_enter Try.func16, Try.ntmps16
              go_wp2_with (first | ((with_reducible refine gate_callee (f := 28) rfl ?_); refine goesL_ (some 1) rfl rfl Try.func28 (by kernel_rfl) rfl #[.int .i64 2200] rfl (by (try simp only [List.map_toArray, List.map_cons, List.map_nil]); first | done | rfl | (simp only [List.length_drop, List.length_take]; rfl)) ?_; (with_reducible refine (peloruslaw0_Num.calls 2200 t171 _ A1.out).mono ?_); rintro e w' ⟨rfl, ⟨nd, rfl⟩⟩; refine ⟨_, rfl, ?_⟩) | (go_at_call 28; (with_reducible refine (peloruslaw0_Num.calls 2300 t172 _ A3.out).mono ?_); rintro e w' ⟨rfl, ⟨nd, rfl⟩⟩) | (go_at_call 28; (with_reducible refine (peloruslaw0_Num.calls 2400 t173 _ A5.out).mono ?_); rintro e w' ⟨rfl, ⟨nd, rfl⟩⟩) | (go_at_call 28; (with_reducible refine (peloruslaw0_Num.calls 2500 t174 _ A7.out).mono ?_); rintro e w' ⟨rfl, ⟨nd, rfl⟩⟩) | (go_at_call 28; (with_reducible refine (peloruslaw0_Num.calls 2600 t175 _ A9.out).mono ?_); rintro e w' ⟨rfl, ⟨nd, rfl⟩⟩) | (go_at_call 28; (with_reducible refine (peloruslaw0_Num.calls 2800 t176 _ A11.out).mono ?_); rintro e w' ⟨rfl, ⟨nd, rfl⟩⟩) | (go_at_call 28; (with_reducible refine (peloruslaw0_Num.calls 2801 t177 _ A13.out).mono ?_); rintro e w' ⟨rfl, ⟨nd, rfl⟩⟩))
              go_ret
              exact ⟨by first | rfl | (simp; done) | (simp [*]; done), by repeat (first | exact Drawn0.refl _ | apply Drawn0.step)⟩
            · rw [if_neg c12] at H
              have c12b0 : (t176 == 2800) = false := beq_eq_false_iff_ne.mpr c12
              have c12b1 : (t176 != 2800) = true := bne_iff_ne.mpr c12
              obtain rfl := Option.some.inj H
              go_enter Try.func16, Try.ntmps16
              go_wp2_with (first | ((with_reducible refine gate_callee (f := 28) rfl ?_); refine goesL_ (some 1) rfl rfl Try.func28 (by kernel_rfl) rfl #[.int .i64 2200] rfl (by (try simp only [List.map_toArray, List.map_cons, List.map_nil]); first | done | rfl | (simp only [List.length_drop, List.length_take]; rfl)) ?_; (with_reducible refine (peloruslaw0_Num.calls 2200 t171 _ A1.out).mono ?_); rintro e w' ⟨rfl, ⟨nd, rfl⟩⟩; refine ⟨_, rfl, ?_⟩) | (go_at_call 28; (with_reducible refine (peloruslaw0_Num.calls 2300 t172 _ A3.out).mono ?_); rintro e w' ⟨rfl, ⟨nd, rfl⟩⟩) | (go_at_call 28; (with_reducible refine (peloruslaw0_Num.calls 2400 t173 _ A5.out).mono ?_); rintro e w' ⟨rfl, ⟨nd, rfl⟩⟩) | (go_at_call 28; (with_reducible refine (peloruslaw0_Num.calls 2500 t174 _ A7.out).mono ?_); rintro e w' ⟨rfl, ⟨nd, rfl⟩⟩) | (go_at_call 28; (with_reducible refine (peloruslaw0_Num.calls 2600 t175 _ A9.out).mono ?_); rintro e w' ⟨rfl, ⟨nd, rfl⟩⟩) | (go_at_call 28; (with_reducible refine (peloruslaw0_Num.calls 2800 t176 _ A11.out).mono ?_); rintro e w' ⟨rfl, ⟨nd, rfl⟩⟩))
              go_ret
              exact ⟨by first | rfl | (simp; done) | (simp [*]; done), by repeat (first | exact Drawn0.refl _ | apply Drawn0.step)⟩
          · rw [if_neg c10] at H
            have c10b0 : (t175 == 2600) = false := beq_eq_false_iff_ne.mpr c10
            have c10b1 : (t175 != 2600) = true := bne_iff_ne.mpr c10
            obtain rfl := Option.some.inj H
            go_enter Try.func16, Try.ntmps16
            go_wp2_with (first | ((with_reducible refine gate_callee (f := 28) rfl ?_); refine goesL_ (some 1) rfl rfl Try.func28 (by kernel_rfl) rfl #[.int .i64 2200] rfl (by (try simp only [List.map_toArray, List.map_cons, List.map_nil]); first | done | rfl | (simp only [List.length_drop, List.length_take]; rfl)) ?_; (with_reducible refine (peloruslaw0_Num.calls 2200 t171 _ A1.out).mono ?_); rintro e w' ⟨rfl, ⟨nd, rfl⟩⟩; refine ⟨_, rfl, ?_⟩) | (go_at_call 28; (with_reducible refine (peloruslaw0_Num.calls 2300 t172 _ A3.out).mono ?_); rintro e w' ⟨rfl, ⟨nd, rfl⟩⟩) | (go_at_call 28; (with_reducible refine (peloruslaw0_Num.calls 2400 t173 _ A5.out).mono ?_); rintro e w' ⟨rfl, ⟨nd, rfl⟩⟩) | (go_at_call 28; (with_reducible refine (peloruslaw0_Num.calls 2500 t174 _ A7.out).mono ?_); rintro e w' ⟨rfl, ⟨nd, rfl⟩⟩) | (go_at_call 28; (with_reducible refine (peloruslaw0_Num.calls 2600 t175 _ A9.out).mono ?_); rintro e w' ⟨rfl, ⟨nd, rfl⟩⟩))
            go_ret
            exact ⟨by first | rfl | (simp; done) | (simp [*]; done), by repeat (first | exact Drawn0.refl _ | apply Drawn0.step)⟩
        · rw [if_neg c8] at H
          have c8b0 : (t174 == 2500) = false := beq_eq_false_iff_ne.mpr c8
          have c8b1 : (t174 != 2500) = true := bne_iff_ne.mpr c8
          obtain rfl := Option.some.inj H
          go_enter Try.func16, Try.ntmps16
          go_wp2_with (first | ((with_reducible refine gate_callee (f := 28) rfl ?_); refine goesL_ (some 1) rfl rfl Try.func28 (by kernel_rfl) rfl #[.int .i64 2200] rfl (by (try simp only [List.map_toArray, List.map_cons, List.map_nil]); first | done | rfl | (simp only [List.length_drop, List.length_take]; rfl)) ?_; (with_reducible refine (peloruslaw0_Num.calls 2200 t171 _ A1.out).mono ?_); rintro e w' ⟨rfl, ⟨nd, rfl⟩⟩; refine ⟨_, rfl, ?_⟩) | (go_at_call 28; (with_reducible refine (peloruslaw0_Num.calls 2300 t172 _ A3.out).mono ?_); rintro e w' ⟨rfl, ⟨nd, rfl⟩⟩) | (go_at_call 28; (with_reducible refine (peloruslaw0_Num.calls 2400 t173 _ A5.out).mono ?_); rintro e w' ⟨rfl, ⟨nd, rfl⟩⟩) | (go_at_call 28; (with_reducible refine (peloruslaw0_Num.calls 2500 t174 _ A7.out).mono ?_); rintro e w' ⟨rfl, ⟨nd, rfl⟩⟩))
          go_ret
          exact ⟨by first | rfl | (simp; done) | (simp [*]; done), by repeat (first | exact Drawn0.refl _ | apply Drawn0.step)⟩
      · rw [if_neg c6] at H
        have c6b0 : (t173 == 2400) = false := beq_eq_false_iff_ne.mpr c6
        have c6b1 : (t173 != 2400) = true := bne_iff_ne.mpr c6
        obtain rfl := Option.some.inj H
        go_enter Try.func16, Try.ntmps16
        go_wp2_with (first | ((with_reducible refine gate_callee (f := 28) rfl ?_); refine goesL_ (some 1) rfl rfl Try.func28 (by kernel_rfl) rfl #[.int .i64 2200] rfl (by (try simp only [List.map_toArray, List.map_cons, List.map_nil]); first | done | rfl | (simp only [List.length_drop, List.length_take]; rfl)) ?_; (with_reducible refine (peloruslaw0_Num.calls 2200 t171 _ A1.out).mono ?_); rintro e w' ⟨rfl, ⟨nd, rfl⟩⟩; refine ⟨_, rfl, ?_⟩) | (go_at_call 28; (with_reducible refine (peloruslaw0_Num.calls 2300 t172 _ A3.out).mono ?_); rintro e w' ⟨rfl, ⟨nd, rfl⟩⟩) | (go_at_call 28; (with_reducible refine (peloruslaw0_Num.calls 2400 t173 _ A5.out).mono ?_); rintro e w' ⟨rfl, ⟨nd, rfl⟩⟩))
        go_ret
        exact ⟨by first | rfl | (simp; done) | (simp [*]; done), by repeat (first | exact Drawn0.refl _ | apply Drawn0.step)⟩
    · rw [if_neg c4] at H
      have c4b0 : (t172 == 2300) = false := beq_eq_false_iff_ne.mpr c4
      have c4b1 : (t172 != 2300) = true := bne_iff_ne.mpr c4
      obtain rfl := Option.some.inj H
      go_enter Try.func16, Try.ntmps16
      go_wp2_with (first | ((with_reducible refine gate_callee (f := 28) rfl ?_); refine goesL_ (some 1) rfl rfl Try.func28 (by kernel_rfl) rfl #[.int .i64 2200] rfl (by (try simp only [List.map_toArray, List.map_cons, List.map_nil]); first | done | rfl | (simp only [List.length_drop, List.length_take]; rfl)) ?_; (with_reducible refine (peloruslaw0_Num.calls 2200 t171 _ A1.out).mono ?_); rintro e w' ⟨rfl, ⟨nd, rfl⟩⟩; refine ⟨_, rfl, ?_⟩) | (go_at_call 28; (with_reducible refine (peloruslaw0_Num.calls 2300 t172 _ A3.out).mono ?_); rintro e w' ⟨rfl, ⟨nd, rfl⟩⟩))
      go_ret
      exact ⟨by first | rfl | (simp; done) | (simp [*]; done), by repeat (first | exact Drawn0.refl _ | apply Drawn0.step)⟩
  · rw [if_neg c2] at H
    have c2b0 : (t171 == 2200) = false := beq_eq_false_iff_ne.mpr c2
    have c2b1 : (t171 != 2200) = true := bne_iff_ne.mpr c2
    obtain rfl := Option.some.inj H
    go_enter Try.func16, Try.ntmps16
    go_wp2_with (first | ((with_reducible refine gate_callee (f := 28) rfl ?_); refine goesL_ (some 1) rfl rfl Try.func28 (by kernel_rfl) rfl #[.int .i64 2200] rfl (by (try simp only [List.map_toArray, List.map_cons, List.map_nil]); first | done | rfl | (simp only [List.length_drop, List.length_take]; rfl)) ?_; (with_reducible refine (peloruslaw0_Num.calls 2200 t171 _ A1.out).mono ?_); rintro e w' ⟨rfl, ⟨nd, rfl⟩⟩; refine ⟨_, rfl, ?_⟩))
    go_ret
    exact ⟨by first | rfl | (simp; done) | (simp [*]; done), by repeat (first | exact Drawn0.refl _ | apply Drawn0.step)⟩

/-! ### peloruslaw0_numbers1: function 17 -/
def peloruslaw0_numbers1.f  : Option (Bool) := some true
set_option maxHeartbeats 8000000 in
set_option maxRecDepth 100000 in
theorem peloruslaw0_numbers1.calls  (r : Bool) (w : World) (h : peloruslaw0_numbers1.f  = some r) :
    Calls Try.prog 17 #[] w fun e w' => e = .returned (.bool r) ∧ Drawn0 w w' := by
  have H : (some true) = some r := h
  clear h
  obtain rfl := Option.some.inj H
  go_enter Try.func17, Try.ntmps17
  go_wp2
  go_ret
  exact ⟨by first | rfl | (simp; done) | (simp [*]; done), by repeat (first | exact Drawn0.refl _ | apply Drawn0.step)⟩

/-! ### peloruslaw0_numbers2: function 18 -/
def peloruslaw0_numbers2.f  : Option (Bool) := some true
set_option maxHeartbeats 8000000 in
set_option maxRecDepth 100000 in
theorem peloruslaw0_numbers2.calls  (r : Bool) (w : World) (h : peloruslaw0_numbers2.f  = some r) :
    Calls Try.prog 18 #[] w fun e w' => e = .returned (.bool r) ∧ Drawn0 w w' := by
  have H : (some true) = some r := h
  clear h
  obtain rfl := Option.some.inj H
  go_enter Try.func18, Try.ntmps18
  go_wp2
  go_ret
  exact ⟨by first | rfl | (simp; done) | (simp [*]; done), by repeat (first | exact Drawn0.refl _ | apply Drawn0.step)⟩

/-! ### peloruslaw0_numbers3: function 19 -/
def peloruslaw0_numbers3.f  : Option (Bool) := some true
set_option maxHeartbeats 8000000 in
set_option maxRecDepth 100000 in
theorem peloruslaw0_numbers3.calls  (r : Bool) (w : World) (h : peloruslaw0_numbers3.f  = some r) :
    Calls Try.prog 19 #[] w fun e w' => e = .returned (.bool r) ∧ Drawn0 w w' := by
  have H : (some true) = some r := h
  clear h
  obtain rfl := Option.some.inj H
  go_enter Try.func19, Try.ntmps19
  go_wp2
  go_ret
  exact ⟨by first | rfl | (simp; done) | (simp [*]; done), by repeat (first | exact Drawn0.refl _ | apply Drawn0.step)⟩

/-! ### peloruslaw0_numbers4: function 20 -/
def peloruslaw0_numbers4.f  : Option (Bool) := some true
set_option maxHeartbeats 8000000 in
set_option maxRecDepth 100000 in
theorem peloruslaw0_numbers4.calls  (r : Bool) (w : World) (h : peloruslaw0_numbers4.f  = some r) :
    Calls Try.prog 20 #[] w fun e w' => e = .returned (.bool r) ∧ Drawn0 w w' := by
  have H : (some true) = some r := h
  clear h
  obtain rfl := Option.some.inj H
  go_enter Try.func20, Try.ntmps20
  go_wp2
  go_ret
  exact ⟨by first | rfl | (simp; done) | (simp [*]; done), by repeat (first | exact Drawn0.refl _ | apply Drawn0.step)⟩

/-! ### peloruslaw0_numbers5: function 21 -/
def peloruslaw0_numbers5.f  : Option (Bool) := some true
set_option maxHeartbeats 8000000 in
set_option maxRecDepth 100000 in
theorem peloruslaw0_numbers5.calls  (r : Bool) (w : World) (h : peloruslaw0_numbers5.f  = some r) :
    Calls Try.prog 21 #[] w fun e w' => e = .returned (.bool r) ∧ Drawn0 w w' := by
  have H : (some true) = some r := h
  clear h
  obtain rfl := Option.some.inj H
  go_enter Try.func21, Try.ntmps21
  go_wp2
  go_ret
  exact ⟨by first | rfl | (simp; done) | (simp [*]; done), by repeat (first | exact Drawn0.refl _ | apply Drawn0.step)⟩

/-! ### peloruslaw0_numbers6: function 22 -/
def peloruslaw0_numbers6.f  : Option (Bool) := some true
set_option maxHeartbeats 8000000 in
set_option maxRecDepth 100000 in
theorem peloruslaw0_numbers6.calls  (r : Bool) (w : World) (h : peloruslaw0_numbers6.f  = some r) :
    Calls Try.prog 22 #[] w fun e w' => e = .returned (.bool r) ∧ Drawn0 w w' := by
  have H : (some true) = some r := h
  clear h
  obtain rfl := Option.some.inj H
  go_enter Try.func22, Try.ntmps22
  go_wp2
  go_ret
  exact ⟨by first | rfl | (simp; done) | (simp [*]; done), by repeat (first | exact Drawn0.refl _ | apply Drawn0.step)⟩

end Go.Proofs.Ytddfoogbakiojaa.PPelorusNames
