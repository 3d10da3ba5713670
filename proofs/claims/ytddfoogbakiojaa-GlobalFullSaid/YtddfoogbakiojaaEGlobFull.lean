/-
  peloruslaw10.GlobalFull answers true.
-/
import Derived.Test.YtddfoogbakiojaaEGlobAwake
namespace Go.Proofs.Ytddfoogbakiojaa.EGlob
open Go Go.RowKit Go.Proofs.Ytddfoogbakiojaa.F Go.Proofs.Ytddfoogbakiojaa.PureObs Go.Proofs.YtddfoogbakiojaaW.Hand Go.Proofs.YtddfoogbakiojaaW.PrintWords Go.Proofs.YtddfoogbakiojaaW.PrintLast Go.Proofs.YtddfoogbakiojaaW.PrintMore
set_option linter.unusedVariables false
set_option linter.unusedSimpArgs false
def mkG (n : Nat) : List Gl := (List.range n).map fun j : Nat => (⟨126, (j : Int), true⟩ : Gl)
theorem mkG_len (n : Nat) : (mkG n).length = n := by simp [mkG]
theorem mkG_snoc (n : Nat) : mkG n ++ [⟨126, (n : Int), true⟩] = mkG (n + 1) := by simp [mkG, List.range_succ]
theorem mkG_get (n i : Nat) (h : i < n) : (mkG n)[i]? = some ⟨126, (i : Int), true⟩ := by simp [mkG, h]
theorem may126 (x : Int) : mayV 126 x = true := by simp [mayV]
theorem and_1023 (n : Int) : ∃ k : Nat, Go.bits .and .i64 n 1023 = (k : Int) ∧ k < 1024 := by
  refine ⟨(BitVec.ofInt 64 n &&& BitVec.ofInt 64 1023).toNat, ?_, ?_⟩
  · have e : Go.bits .and .i64 n 1023 = IntKind.i64.wrap ((BitVec.ofInt 64 n &&& BitVec.ofInt 64 1023).toNat : Int) := rfl
    rw [e, IntKind.wrap_i64]
    have h1 : (BitVec.ofInt 64 n &&& BitVec.ofInt 64 1023).toNat ≤ 1023 := by
      rw [BitVec.toNat_and]
      exact Nat.le_trans Nat.and_le_right (by decide)
    omega
  · have h1 : (BitVec.ofInt 64 n &&& BitVec.ofInt 64 1023).toNat ≤ 1023 := by
      rw [BitVec.toNat_and]
      exact Nat.le_trans Nat.and_le_right (by decide)
    omega
def fullV (k : Nat) (x : Int) : List S29 := ((mkG 1024).set k ⟨126, x, true⟩).map valOf
theorem fullV_len (k : Nat) (x : Int) : (fullV k x).length = 1024 := by simp [fullV, mkG_len]
theorem fullV_own (k : Nat) (x : Int) (h : k < 1024) : (rd_T29 (fullV k x) (k : Int)).f1 = x := by
  have : k < (mkG 1024).length := by rw [mkG_len]; exact h
  simp [rd_T29, fullV, valOf, List.getD_eq_getElem?_getD, this]
theorem fullV_other (k i : Nat) (x : Int) (h : i < 1024) (hne : i ≠ k) : (rd_T29 (fullV k x) (i : Int)).f1 = (i : Int) := by
  simp [rd_T29, fullV, valOf, List.getD_eq_getElem?_getD, List.getElem?_set_ne (Ne.symm hne), mkG_get 1024 i h]
def Rel1 (w : World) (g : Nat) (n : Nat) (v6 : Value) (wr : World) : Prop := ∃ i : Nat, i + n = 1024 ∧ v6 = .int .i64 i ∧ Gs wr g (S0 w) (mkG i) ∧ Below w.heap.size w wr
def Rel2 (w : World) (n : Nat) (v12 : Value) (wr : World) : Prop := ∃ i : Nat, i + n = 1024 ∧ v12 = .int .i64 i ∧ Below w.heap.size w wr
set_option maxHeartbeats 8000000 in
set_option maxRecDepth 100000 in
theorem full_calls {w : World} {at_ x : Int} : Calls Try.prog 6 #[.int .i64 at_, .int .i64 x] w fun e w' => e = .returned (.bool true) ∧ Below w.heap.size w w' := by
  have hu29 := Try.underlying29
  have hu37 := Try.underlying37
  obtain ⟨k, hk, hk1⟩ := and_1023 at_
  have K1 := Aside0.mk hk1
  clear hk1
  go_enter Try.func6, Try.ntmps6
  go_wp2_with (first
    | (go_at_call 23; refine (awake_calls _).mono ?_; rintro e w1 ⟨rfl, hb⟩; have HB1 := Aside0.mk hb; clear hb)
    | (go_at_call 24; (with_reducible refine (new_calls w1).mono ?_); rintro e w2 ⟨g, rfl, hg, hb⟩; have GS2 : Aside0 (Gs w2 g (S0 w) []) := ⟨hg.mono (fun k hk => Nat.le_trans HB1.out.size hk)⟩; have HB2 := Aside0.mk (below_step HB1.out hb); clear hg hb HB1))
  go_loopg [6] 1024 (fun n v6 wr => Rel1 w g n v6 wr)
  case atStart => exact ⟨0, by omega, rfl, GS2.out, HB2.out⟩
  case round =>
    obtain ⟨i, hi, rfl, hG, hb⟩ := hrel
    have GS3 := Aside0.mk hG
    have HB3 := Aside0.mk hb
    clear hG hb GS2 HB2
    by_cases hlt : i < 1024
    · have I3 := Aside0.mk hi
      have HLT := Aside0.mk hlt
      have hb1 : (i : Int) < 1024 := by omega
      have hb2 : decide ((i : Int) < 1024) = true := decide_eq_true hb1
      have C1 := Aside0.mk (add_fits (x := 126) (y := (i : Int)) (m := true) GS3.out (may126 _) (by rw [mkG_len]; exact hlt))
      clear hi hlt
      go_wp2_with (first
        | (go_at_call 25; (with_reducible refine (C1.out).mono ?_); rintro e w4 ⟨rfl, hg, hf⟩; have HB4 := Aside0.mk (below_fr HB3.out hf); have GS4 := Aside0.mk (hg.up HB3.out.size); clear hg hf)
        | (go_at_call 28; (with_reducible refine (num_calls _ _).mono ?_); rintro e w' ⟨rfl, rfl⟩))
      go_roundg (1024 - (i + 1))
      case measure => have := I3.out; have := HLT.out; omega
      case rel => exact ⟨i + 1, by have := HLT.out; omega, by go_num, by have := GS4.out; rw [mkG_snoc] at this; exact this, HB4.out⟩
    · obtain rfl : i = 1024 := by omega
      clear hi hlt
      have d0 : decide (((1024 : Nat) : Int) < 1024) = false := by decide
      have C1 := Aside0.mk (add_full (x := 126) (y := 0) (m := true) GS3.out (may126 _) (by rw [mkG_len]; decide))
      have hr := Aside0.mk (show (rdG (mkG 1024) (k : Int)).ty = 126 ∧ (rdG (mkG 1024) (k : Int)).mt = true by simp [rdG, List.getD_eq_getElem?_getD, mkG_get 1024 k K1.out])
      have HK := Aside0.mk (show (k : Int) < (mkG 1024).length by rw [mkG_len]; have := K1.out; omega)
      go_wp2_with (first
        | (go_at_call 25; (with_reducible refine (C1.out).mono ?_); rintro e w4 ⟨rfl, hb⟩; have HB4 := Aside0.mk (below_step HB3.out hb); have GS4 := Aside0.mk (GS3.out.below hb); have C2 := Aside0.mk (set_ok (k := (k : Int)) (x := 126) (y := x) GS4.out (by omega) HK.out (may126 _) hr.out.1 hr.out.2); clear hb C1)
        | (go_at_call 26; (with_reducible refine (C2.out).mono ?_); rintro e w5 ⟨rfl, hg, hf⟩; have HB5 := Aside0.mk (below_fr HB4.out hf); have GS5 := Aside0.mk hg; have C3 := Aside0.mk (all_calls GS5.out (by simp [mkG_len])); clear hg hf C2)
        | (go_at_call 32; (with_reducible refine (C3.out).mono ?_); rintro e w6 ⟨va, rfl, hR, hb⟩; obtain ⟨Aa, ca, rfl, hl, hC⟩ := Kd.R_reads hR; have hml := mkG_len 1024; have HB6 := Aside0.mk (below_step HB5.out hb); have CV : Aside0 (k29.C w6 Aa 1024 (fullV k x)) := ⟨by have := hC; simpa [mkG_len, fullV] using this⟩; clear hR hb hl hC C3))
      have hy : Below w6.heap.size w6 w6 := Below.refl _ _
      go_loopg [12] 1024 (fun n v12 wr => Rel2 w6 n v12 wr)
      case atStart => exact ⟨0, by omega, rfl, hy⟩
      case round =>
        clear hy
        obtain ⟨j, hj, rfl, hb⟩ := hrel
        have HBj := Aside0.mk hb
        obtain ⟨ad, rfl, q1, q2⟩ := at_T29 (Kd.C_below CV.out hb) (k : Int) (by omega) (by have := K1.out; omega)
        rw [fullV_own k x K1.out] at q2
        simp only [Int.toNat_natCast] at q1 q2
        clear hb
        by_cases hlt : j < 1024
        · have J3 := Aside0.mk hj
          have HLT := Aside0.mk hlt
          obtain ⟨ad', he, q3, q4⟩ := at_T29 (Kd.C_below CV.out HBj.out) (j : Int) (by omega) (by omega)
          obtain rfl := Option.some.inj he
          simp only [Int.toNat_natCast] at q3 q4
          have hb1 : (j : Int) < 1024 := by omega
          have hb2 : decide ((j : Int) < 1024) = true := decide_eq_true hb1
          by_cases hjk : j = k
          · subst hjk
            clear hj hlt q3 q4
            go_wp2
            go_roundg (1024 - (j + 1))
            case measure => have := J3.out; have := HLT.out; omega
            case rel => exact ⟨j + 1, by have := HLT.out; omega, by go_num, HBj.out⟩
          · rw [fullV_other k j x hlt hjk] at q4
            have d1 : ((j : Int) != (k : Int)) = true := by simp; omega
            have d2 : (j != k) = true := by simpa using hjk
            clear hj hlt q1 q2 hjk
            go_wp2
            go_roundg (1024 - (j + 1))
            case measure => have := J3.out; have := HLT.out; omega
            case rel => exact ⟨j + 1, by have := HLT.out; omega, by go_num, HBj.out⟩
        · obtain rfl : j = 1024 := by omega
          clear hj hlt
          have hkb : (k : Int) < 1024 := by have := K1.out; omega
          have HBz := Aside0.mk (below_step HB6.out HBj.out)
          go_wp2_with (first
            | (go_at_call 28; (with_reducible refine (num_calls _ _).mono ?_); rintro e w' ⟨rfl, rfl⟩))
          go_ret
          exact ⟨rfl, HBz.out⟩
end Go.Proofs.Ytddfoogbakiojaa.EGlob
