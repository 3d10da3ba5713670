/-
  FtypeImports, plain: what Func, Global, Counts answer of the module that it makes.
-/
import Derived.Test.YtmofdpkddimmlaaEFty7
namespace Go.Proofs.Ytmofdpkddimmlaa.EFty
open Go Go.RowKit Go.Proofs.Ytmofdpkddimmlaa.F Go.Proofs.YtmofdpkddimmlaaW.Hand Go.Proofs.YtmofdpkddimmlaaW.PrintWords Go.Proofs.YtmofdpkddimmlaaW.PrintLast Go.Proofs.YtmofdpkddimmlaaW.PrintMore
set_option linter.unusedVariables false
set_option linter.unusedSimpArgs false
theorem upTo_plc (ks : List Int) (N : Nat) (K : Int) : ∀ i, i ≤ N → (upTo (FULL ks N) K i).map (fun x => (x.1 : Int)) = plc ks K i := by
  intro i
  induction i with
  | zero => intro _; rfl
  | succ i ih =>
    intro hi
    have h0 := ih (by omega)
    have hf : (rd_T90 (FULL ks N) (i : Int)).f2 = kd ks i := by rw [FULL_at ks N i (by omega)]
    by_cases hk : kd ks i = K
    · rw [show upTo (FULL ks N) K (i + 1) = upTo (FULL ks N) K i ++ [⟨i, by rw [FULL_len]; omega, by rw [hf, hk]⟩] from dif_pos ⟨by rw [FULL_len]; omega, by rw [hf, hk]⟩, List.map_append, h0, ← plc_yes hk]
      rfl
    · rw [show upTo (FULL ks N) K (i + 1) = upTo (FULL ks N) K i from dif_neg (fun h => hk (by rw [← hf]; exact h.2)), h0, plc_no hk]
theorem cnt_kc (ks : List Int) (N : Nat) (K : Int) : cnt (FULL ks N) K (FULL ks N).length = kc ks K N := by
  rw [FULL_len]
  unfold cnt kc
  rw [← upTo_plc ks N K N (Nat.le_refl _), List.length_map]
theorem nth_plc (ks : List Int) (N : Nat) (K : Int) (j : Nat) (hj : j < kc ks K N) : ∃ m : Nat, m < N ∧ (plc ks K N)[j]? = some (m : Int) ∧ nth (FULL ks N) K (j : Int) = rd_T90 (FULL ks N) (m : Int) := by
  have h := upTo_plc ks N K N (Nat.le_refl _)
  have hl : (upTo (FULL ks N) K N).length = kc ks K N := by unfold kc; rw [← h, List.length_map]
  have hx : (upTo (FULL ks N) K N)[j]? = some ((upTo (FULL ks N) K N)[j]'(by omega)) := List.getElem?_eq_getElem _
  refine ⟨((upTo (FULL ks N) K N)[j]'(by omega)).1, ?_, ?_, ?_⟩
  · have := ((upTo (FULL ks N) K N)[j]'(by omega)).2.1
    exact Nat.lt_of_lt_of_eq this (FULL_len ks N)
  · rw [← h, List.getElem?_map, hx]
    rfl
  · unfold nth
    have hx2 : upTo (FULL ks N) K (FULL ks N).length = upTo (FULL ks N) K N := congrArg (upTo (FULL ks N) K) (FULL_len ks N)
    simp only [hx2, Int.toNat_natCast, hx]
theorem FS_at (q j : Nat) (h : j < q) : (FS q)[j]? = some (30 + (j : Int)) := by unfold FS; simp [h]
theorem TS_at (q j : Nat) (h : j < q) : (TS q)[j]? = some (100 + (j : Int)) := by unfold TS; simp [h]
theorem TL_at (m : Nat) (h : m < 40) : rd_T36 (TL 40) (m : Int) = ⟨List.replicate m 0, []⟩ := by unfold rd_T36 TL; simp [List.getD_eq_getElem?_getD, h]
theorem GS_at (q j : Nat) (h : j < q) : rd_T93 (GS q) (j : Int) = ⟨100 + (j : Int), true, []⟩ := by unfold rd_T93 GS; simp [List.getD_eq_getElem?_getD, h]
theorem fun_at (ks : List Int) (N q j : Nat) (hN : N ≤ 20) (hq : q < 8) (hj : j < kc ks 0 N + q) : ∃ m : Nat, m < 40 ∧ (plc ks 0 N ++ FS q).getD j 0 = (m : Int) ∧ funcOf (FULL ks N) (TL 40) (FS q) (j : Int) = ((List.replicate m 0, []), 0) := by
  have hl : (plc ks 0 N).length = kc ks 0 N := rfl
  have fin : ∀ m : Nat, m < 40 → placeOf (FULL ks N) (FS q) (j : Int) = (m : Int) → funcOf (FULL ks N) (TL 40) (FS q) (j : Int) = ((List.replicate m 0, []), 0) := by
    intro m hm hp
    unfold funcOf
    rw [hp, if_neg (by rw [TL_len]; omega), TL_at m hm]
  by_cases h : j < kc ks 0 N
  · obtain ⟨m, hm, h1, h2⟩ := nth_plc ks N 0 j h
    refine ⟨m, by omega, ?_, fin m (by omega) ?_⟩
    · rw [List.getD_eq_getElem?_getD, List.getElem?_append_left (by omega), h1]
      rfl
    · unfold placeOf
      rw [cnt_kc, if_pos ⟨by omega, by omega⟩, h2, FULL_at ks N m hm]
  · have hj2 : j - kc ks 0 N < q := by omega
    refine ⟨30 + (j - kc ks 0 N), by omega, ?_, fin _ (by omega) ?_⟩
    · rw [List.getD_eq_getElem?_getD, List.getElem?_append_right (by omega), hl, FS_at q _ hj2]
      simp
    · unfold placeOf
      rw [cnt_kc, if_neg (by omega), if_neg (by rw [FS_len]; omega), List.getD_eq_getElem?_getD, show ((j : Int) - (kc ks 0 N : Int)).toNat = j - kc ks 0 N by omega, FS_at q _ hj2]
      simp
theorem fun_end (ks : List Int) (N q : Nat) : funcOf (FULL ks N) (TL 40) (FS q) ((kc ks 0 N + q : Nat) : Int) = (([], []), 1701) := by
  unfold funcOf
  rw [if_pos]
  refine .inr (.inl ?_)
  unfold placeOf
  rw [cnt_kc, if_neg (by omega), if_pos (by rw [FS_len]; omega)]
  decide
theorem glob_at (ks : List Int) (N q j : Nat) (hN : N ≤ 20) (hq : q < 8) (hj : j < kc ks 3 N + q) : ∃ (x : Int) (b : Bool), (plc ks 3 N ++ TS q).getD j 0 = x ∧ decide (100 ≤ x) = b ∧ globalOf (FULL ks N) (GS q) (j : Int) = (x, b, 0) := by
  have hl : (plc ks 3 N).length = kc ks 3 N := rfl
  by_cases h : j < kc ks 3 N
  · obtain ⟨m, hm, h1, h2⟩ := nth_plc ks N 3 j h
    refine ⟨(m : Int), false, ?_, decide_eq_false (by omega), ?_⟩
    · rw [List.getD_eq_getElem?_getD, List.getElem?_append_left (by omega), h1]
      rfl
    · unfold globalOf
      rw [cnt_kc, if_pos ⟨by omega, by omega⟩, h2, FULL_at ks N m hm]
  · have hj2 : j - kc ks 3 N < q := by omega
    refine ⟨100 + ((j - kc ks 3 N : Nat) : Int), true, ?_, decide_eq_true (by omega), ?_⟩
    · rw [List.getD_eq_getElem?_getD, List.getElem?_append_right (by omega), hl, TS_at q _ hj2]
      rfl
    · unfold globalOf
      rw [cnt_kc, if_neg (by omega), if_neg (by rw [GS_len]; omega), show (j : Int) - (kc ks 3 N : Int) = ((j - kc ks 3 N : Nat) : Int) by omega, GS_at q _ hj2]
theorem glob_neg (ks : List Int) (N q : Nat) : globalOf (FULL ks N) (GS q) (-1) = (0, false, 1701) := by
  unfold globalOf
  rw [if_neg (by omega), if_pos (by left; omega)]
theorem TL_sz (i : Int) : (rd_T36 (TL 40) i).f0.length * 8 ≤ 140737488351232 ∧ (rd_T36 (TL 40) i).f1.length * 8 ≤ 140737488351232 := by
  by_cases h : i.toNat < 40
  · have e : rd_T36 (TL 40) i = ⟨List.replicate i.toNat 0, []⟩ := by unfold rd_T36 TL; simp [List.getD_eq_getElem?_getD, h]
    rw [e]
    simp
    omega
  · have e : rd_T36 (TL 40) i = z36 := by
      unfold rd_T36 TL
      rw [List.getD_eq_getElem?_getD, List.getElem?_eq_none (by simp; omega)]
      rfl
    rw [e]
    simp [z36]
section
variable {w W : World} {L : Nat → Nat} {gm gc N q n0 n1 n2 n3 : Nat} {AT AI AF AG : Option Addr} {cT cI cF cG : Nat} {vf vt : Value} {fu ty ks : List Int}
theorem St.func (h : St w W L gm gc (.slice AT 40 cT) (.slice AI N cI) (.slice AF q cF) (.slice AG q cG) vf vt (TL 40) (FULL ks N) (FS q) (GS q) fu ty n0 n1 n2 n3) (hN : N ≤ 20) (hq : q < 8) (k : Int) (hk : k < 9223372036854775808) {xs ys : List Int} {r : Int} (hf : funcOf (FULL ks N) (TL 40) (FS q) k = ((xs, ys), r)) :
    Calls Try.prog 26 #[.agg #[.slice AT 40 cT, .slice AI N cI, .slice AF q cF, .slice none 0 0, .slice none 0 0, .slice AG q cG, .slice none 0 0, .int .i64 0, .slice none 0 0, .slice none 0 0, .slice none 0 0], .int .i64 k] W fun e w' => ∃ Av cv Bv dv, e = .returned (.tuple #[.agg #[.slice Av xs.length cv, .slice Bv ys.length dv], .int .i64 r]) ∧ Below W.heap.size W w' := by
  have hx := func_calls W (FULL ks N) (TL 40) (FS q) k AT AI AF none none AG none none none none 0 0 q 0 0 0 0 cT cI cF 0 0 cG 0 0 0 0 0 (by rw [FULL_len]; omega) (by rw [FS_len]; omega) hk TL_sz (Kd.N_reads' h.T).2.2 (Kd.N_reads' h.I).2.2 (Kd.N_reads' h.F).2.2
  rw [TL_len, FULL_len, FS_len, hf] at hx
  refine hx.mono ?_
  rintro e w' ⟨v0, v1, rfl, h0, h1, -, hb⟩
  obtain ⟨A, c, rfl⟩ := Kd.R_slice h0
  obtain ⟨B, d, rfl⟩ := Kd.R_slice h1
  exact ⟨A, c, B, d, rfl, hb⟩
theorem St.glob (h : St w W L gm gc (.slice AT 40 cT) (.slice AI N cI) (.slice AF q cF) (.slice AG q cG) vf vt (TL 40) (FULL ks N) (FS q) (GS q) fu ty n0 n1 n2 n3) (hN : N ≤ 20) (hq : q < 8) (k : Int) (hk : k < 9223372036854775808) {x r : Int} {b : Bool} (hf : globalOf (FULL ks N) (GS q) k = (x, b, r)) :
    Calls Try.prog 28 #[.agg #[.slice AT 40 cT, .slice AI N cI, .slice AF q cF, .slice none 0 0, .slice none 0 0, .slice AG q cG, .slice none 0 0, .int .i64 0, .slice none 0 0, .slice none 0 0, .slice none 0 0], .int .i64 k] W fun e w' => e = .returned (.tuple #[.int .i64 x, .bool b, .int .i64 r]) ∧ Below W.heap.size W w' := by
  have hx := global_calls W (FULL ks N) (GS q) k AT AI AF none none AG none none none none 40 q 0 0 0 0 0 0 cT cI cF 0 0 cG 0 0 0 0 0 (by rw [FULL_len]; omega) (by rw [GS_len]; omega) hk (Kd.N_reads' h.I).2.2 (Kd.N_reads' h.G).2.2
  rw [FULL_len, GS_len, hf] at hx
  exact hx
theorem St.counts (h : St w W L gm gc (.slice AT 40 cT) (.slice AI N cI) (.slice AF q cF) (.slice AG q cG) vf vt (TL 40) (FULL ks N) (FS q) (GS q) fu ty n0 n1 n2 n3) (hN : N ≤ 20) (hq : q < 8) :
    Calls Try.prog 30 #[.agg #[.slice AT 40 cT, .slice AI N cI, .slice AF q cF, .slice none 0 0, .slice none 0 0, .slice AG q cG, .slice none 0 0, .int .i64 0, .slice none 0 0, .slice none 0 0, .slice none 0 0]] W fun e w' => e = .returned (.tuple #[.int .i64 (wrap64 ((kc ks 0 N : Int) + (q : Int))), .int .i64 (kc ks 1 N : Int), .int .i64 (kc ks 2 N : Int), .int .i64 (wrap64 ((kc ks 3 N : Int) + (q : Int)))]) ∧ Below W.heap.size W w' := by
  have hx := counts_calls W (FULL ks N) AT AI AF none none AG none none none none 40 q 0 0 q 0 0 0 0 cT cI cF 0 0 cG 0 0 0 0 0 (by rw [FULL_len]; omega) (Kd.N_reads' h.I).2.2
  have e1 := kc_le ks 1 N
  have e2 := kc_le ks 2 N
  rw [cnt_kc, cnt_kc, cnt_kc, cnt_kc, FULL_len, show wrap64 ((kc ks 1 N : Int) + ((0 : Nat) : Int)) = (kc ks 1 N : Int) by unfold wrap64; omega, show wrap64 ((kc ks 2 N : Int) + ((0 : Nat) : Int)) = (kc ks 2 N : Int) by unfold wrap64; omega] at hx
  exact hx
end
def Rel4 (w : World) (L : Nat → Nat) (gm gc : Nat) (vT vI vF vG vf vt : Value) (ts : List S36) (imps : List S90) (fs : List Int) (gs : List S93) (fu ty : List Int) (n0 n1 n2 n3 M n : Nat) (v13 : Value) (wr : World) : Prop := ∃ j : Nat, j + n = M ∧ v13 = .int .i64 j ∧ St w wr L gm gc vT vI vF vG vf vt ts imps fs gs fu ty n0 n1 n2 n3
end Go.Proofs.Ytmofdpkddimmlaa.EFty
