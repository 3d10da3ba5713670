/-
  peloruslaw13.NameBack.
-/
import Derived.Test.YtflejniglhjbfaaDoorENamesP
import Derived.Test.YtflejniglhjbfaaDoorENamesA
namespace Go.Proofs.YtflejniglhjbfaaDoor.ENames
open Go Go.RowKit Go.Lib Go.Proofs.YtflejniglhjbfaaDoor.F Go.Proofs.YtflejniglhjbfaaDoorW.Hand Go.Proofs.YtflejniglhjbfaaDoorW.PrintWords Go.Proofs.YtflejniglhjbfaaDoorW.PrintLast Go.Proofs.YtflejniglhjbfaaDoorW.PrintMore Go.Proofs.YtflejniglhjbfaaDoor.LebMath Go.Proofs.YtflejniglhjbfaaDoor.LebFns Go.Proofs.YtflejniglhjbfaaDoor.LebGets Go.Proofs.YtflejniglhjbfaaDoor.Pure13
set_option linter.unusedVariables false
set_option linter.unusedSimpArgs false
set_option maxHeartbeats 4000000 in
set_option maxRecDepth 100000 in
theorem back_calls (s pre : ByteArray) (cut : Int) (w : World) (hs : s.size ≤ 140737488351232) (hp : pre.size ≤ 140737488351232) (hT : Tabs w) : Calls Tryd.prog 4 #[.string s, .string pre, .int .i64 cut] w fun e w' => e = .returned (.bool true) ∧ Below w.heap.size w w' := by
  obtain ⟨t, p2, hn⟩ : ∃ p1 p2, nput s = (p1, p2) := ⟨_, _, rfl⟩
  have e14 : Aside0 (∀ W, Below w.heap.size w W → Calls Tryd.prog 14 #[] W fun e w' => e = .returned (.bool true) ∧ Below w.heap.size w w') := ⟨fun W hb => (awake_calls W (tabs_below hT hb)).mono fun _ _ h => ⟨h.1, below_step hb h.2⟩⟩
  have P := Aside0.mk hn
  have HS := Aside0.mk (show s.size ≤ 140737488355328 by omega)
  have HT := Aside0.mk hT
  have hy := Aside0.mk (Below.refl w.heap.size w)
  by_cases h0 : p2 = 0
  · subst h0
    obtain ⟨k64, kv, kt⟩ := put_ok hn
    have htz : t.size = s.size + 1 := by rw [kt, ByteArray.size_append]; show 1 + s.size = _; omega
    have M := Aside0.mk (put_may hn)
    have B := Aside0.mk (back_get (pre := pre) hn hp)
    have s3 : (⟨#[122]⟩ : ByteArray).size = 1 := rfl
    have Z := Aside0.mk (show (pre ++ t ++ ⟨#[122]⟩ : ByteArray).size ≤ 140737488355328 by rw [ByteArray.size_append, ByteArray.size_append, s3]; omega)
    have m0 := Int.emod_nonneg (cut % 18446744073709551616) (show (t.size : Int) ≠ 0 by omega)
    have m1 := Int.emod_lt_of_pos (cut % 18446744073709551616) (show (0 : Int) < (t.size : Int) by omega)
    obtain ⟨c, hcu⟩ : ∃ c : Nat, (cut % 18446744073709551616) % (t.size : Int) = (c : Int) := ⟨_, (Int.toNat_of_nonneg m0).symm⟩
    have hc : c < t.size := by rw [hcu] at m1; omega
    have m2 : 0 ≤ cut % 18446744073709551616 := Int.emod_nonneg _ (by decide)
    have C := Aside0.mk (back_cut hn c hc)
    have CZ := Aside0.mk (show (t.extract 0 c).size ≤ 140737488355328 by rw [ByteArray.size_extract]; omega)
    have q1 : pre.size + t.size ≤ 9223372036854775807 := by omega
    have q2 : pre.size + t.size + 1 ≤ 9223372036854775807 := by omega
    have u4 : c ≤ t.size := Nat.le_of_lt hc
    have u6 : ¬ (t.size : Int) = 0 := by clear m2 m1 m0 hcu; omega
    have u5 : ((t.size : Int) == 0) = false := beq_eq_false_iff_ne.mpr u6
    have u3 : wrap64 (c : Int) = (c : Int) := wrap64_eq (by omega) (by omega)
    have u0 : IntKind.u64.wrap cut = cut % 18446744073709551616 := u64_eq cut
    have u1 : IntKind.u64.wrap (t.size : Int) = (t.size : Int) := by rw [u64_eq]; exact Int.emod_eq_of_lt (by omega) (by omega)
    have u2 : Int.tmod (cut % 18446744073709551616) (t.size : Int) = (c : Int) := by rw [Int.tmod_eq_emod_of_nonneg m2]; exact hcu
    clear hs hp hT hn k64 kv kt hcu m0 m1 m2 htz hc
    go_enter Tryd.func4, Tryd.ntmps4
    go_wp2_with (first
    | (go_at_call 7; (with_reducible refine (put_is P.out HS.out HT.out hy.out).mono ?_); rintro e w' ⟨rfl, hb⟩; clear hy; have hy := Aside0.mk hb; clear hb)
    | (go_at_call 9; (with_reducible refine (get_is B.out Z.out HT.out hy.out).mono ?_); rintro e w' ⟨rfl, hb⟩; clear hy; have hy := Aside0.mk hb; clear hb)
    | (go_at_call 9; (with_reducible refine (get_is C.out CZ.out HT.out hy.out).mono ?_); rintro e w' ⟨rfl, hb⟩; clear hy; have hy := Aside0.mk hb; clear hb)
    | (go_at_call 11; (with_reducible refine (may_is M.out HS.out HT.out hy.out).mono ?_); rintro e w' ⟨rfl, hb⟩; clear hy; have hy := Aside0.mk hb; clear hb)
    | (go_at_call 14; (with_reducible refine (e14.out _ hy.out).mono ?_); rintro e w' ⟨rfl, hb⟩; clear hy; have hy := Aside0.mk hb; clear hb)
    | (go_at_call 13; (with_reducible refine (num_is _ hy.out).mono ?_); rintro e w' ⟨rfl, hb⟩; clear hy; have hy := Aside0.mk hb; clear hb))
    go_ret
    exact ⟨by first | rfl | (simp; done), hy.out⟩
  · obtain ⟨rfl, hm⟩ := put_bad hn h0
    have M := Aside0.mk hm
    have d : (p2 != 0) = true := bne_iff_ne.mpr h0
    clear hs hp hT hn h0 hm
    go_enter Tryd.func4, Tryd.ntmps4
    go_wp2_with (first
    | (go_at_call 7; (with_reducible refine (put_is P.out HS.out HT.out hy.out).mono ?_); rintro e w' ⟨rfl, hb⟩; clear hy; have hy := Aside0.mk hb; clear hb)
    | (go_at_call 11; (with_reducible refine (may_is M.out HS.out HT.out hy.out).mono ?_); rintro e w' ⟨rfl, hb⟩; clear hy; have hy := Aside0.mk hb; clear hb)
    | (go_at_call 14; (with_reducible refine (e14.out _ hy.out).mono ?_); rintro e w' ⟨rfl, hb⟩; clear hy; have hy := Aside0.mk hb; clear hb)
    | (go_at_call 13; (with_reducible refine (num_is _ hy.out).mono ?_); rintro e w' ⟨rfl, hb⟩; clear hy; have hy := Aside0.mk hb; clear hb))
    go_ret
    exact ⟨by first | rfl | (simp; done), hy.out⟩
end Go.Proofs.YtflejniglhjbfaaDoor.ENames
