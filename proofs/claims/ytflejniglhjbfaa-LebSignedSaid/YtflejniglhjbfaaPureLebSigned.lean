/-
  LebSigned: numbers of 32 bits come back with their sign, by both lengths; without sign they are these modulo 2^32. Conditions: none.
-/
import Derived.Test.YtflejniglhjbfaaLebBacks
import Derived.Test.YtflejniglhjbfaaFx5
namespace Go.Proofs.Ytflejniglhjbfaa.Pure
open Go.RowKit Go.Proofs.Ytflejniglhjbfaa.F Go.Proofs.YtflejniglhjbfaaW.PrintWords Go.Proofs.YtflejniglhjbfaaW.PrintLast Go.Proofs.Ytflejniglhjbfaa.LebMath Go.Proofs.Ytflejniglhjbfaa.LebFns Go.Proofs.Ytflejniglhjbfaa.LebGets Go.Proofs.Ytflejniglhjbfaa.LebGetS Go.Proofs.Ytflejniglhjbfaa.LebBacks

theorem awake_evS : Ev (fun k => peloruslaw12_awake.f k) true := Ev.of peloruslaw12_awake.mono (k := 20) (by decide +kernel)
theorem at_all (ds : List Int) (hr : ∀ i, 0 ≤ nth ds i ∧ nth ds i < 256) (hz : ds.length ≤ 1000) : At (strOfNums ds) 0 ds := by
  refine ⟨by omega, by rw [size_str]; omega, by rw [size_str]; omega, fun i hi => ?_⟩
  unfold byt
  rw [show (0 : Int) + (i : Int) = ((i : Nat) : Int) from by omega]
  exact bt_str ds i (hr i)
theorem signed_j0 (y z : Int) (hy : 0 ≤ y ∧ y < 4294967296) (hz : -2147483648 ≤ z ∧ z < 2147483648) : Ev (fun k => peloruslaw12_LebSigned.j0 k y z) true := by
  refine Ev.step (fun k => by rw [peloruslaw12_LebSigned.j0]) ?_
  obtain ⟨hs, hsl⟩ := S9 z (by omega) (by omega)
  obtain ⟨hu, hul⟩ := U9 y (by omega) (by omega)
  have aS := at_all _ hs.range (by omega)
  have au := at_all _ hu.range (by omega)
  have l5 := len_s32 hs hz
  have u5 := len_u32 hu hy.2
  have m32 : mo 32 = 5 := rfl
  have m64 : mo 64 = 10 := rfl
  have hp := puts_ev z (by omega) (by omega)
  have hp2 := put_ev y
  rw [show y % 18446744073709551616 = y from by omega] at hp2
  have g1 := gets_ev (strOfNums (S 9 z)) 0 32 (by rw [size_str]; omega)
  rw [gets_s aS hs (.inl ⟨rfl, hz⟩) (by omega)] at g1
  have g2 := gets_ev (strOfNums (S 9 z)) 0 64 (by rw [size_str]; omega)
  rw [gets_s aS hs (.inr ⟨rfl, by omega, by omega⟩) (by omega)] at g2
  have g3 := get_ev (strOfNums (U 9 y)) 0 32 (by rw [size_str]; omega)
  rw [get_u au hu (.inl ⟨rfl, hy.2⟩) (by omega), wrap64_eq (x := y) (by omega) (by omega)] at g3
  refine Ev.bind hp (Ev.bind hp2 (Ev.bind g1 (Ev.bind g2 (Ev.bind g3 ?_))))
  simp only [if_true, peloruslaw0_Num.f, Option.bind_some]
  rw [if_pos (by rw [size_str]; omega), if_pos (by rw [size_str]; omega)]
  rw [show decide (((strOfNums (U 9 y)).size : Int) ≤ 5) = true from decide_eq_true (by rw [size_str]; omega)]
  exact Ev.now true
theorem LebSigned : peloruslaw12_LebSigned.Pure := by
  intro x _
  refine Ev.rounds (g := fun k => peloruslaw12_LebSigned.f k x) ?_
  unfold peloruslaw12_LebSigned.f
  have hm : Go.bits .and .i64 x 4294967295 = x % 4294967296 := by
    have := and_mask x 32 (by omega) 4294967295 (by decide)
    rw [this]; rfl
  refine Ev.bind awake_evS ?_
  simp only [if_true, hm]
  by_cases c : x % 4294967296 ≥ 2147483648
  · simp only [if_pos c]
    rw [wrap64_eq (x := x % 4294967296 - 4294967296) (by omega) (by omega)]
    exact signed_j0 _ _ (by omega) (by omega)
  · simp only [if_neg c]
    exact signed_j0 _ _ (by omega) (by omega)

end Go.Proofs.Ytflejniglhjbfaa.Pure
