/-
  InstrOps: plain.
-/
import Derived.Test.YtbekfmeaeaghpaaD14G
namespace Go.Proofs.Ytbekfmeaeaghpaa.EInstr
open Go Go.RowKit Go.Proofs.Ytbekfmeaeaghpaa.F Go.Proofs.YtbekfmeaeaghpaaW.Hand Go.Proofs.YtbekfmeaeaghpaaW.PrintWords Go.Proofs.YtbekfmeaeaghpaaW.PrintLast Go.Proofs.YtbekfmeaeaghpaaW.PrintMore
open Go.Proofs.YtbekfmeaeaghpaaW.Byt
set_option linter.unusedVariables false
set_option linter.unusedSimpArgs false
open Go.Proofs.Ytbekfmeaeaghpaa.LebBacks (size_str nth bt_str nth_cons nth_zero nth_out)
theorem one_may {x : S44} (h6 : x.f6 = []) (h7 : x.f7 = []) (hm : mayB x = true) : mayE [x] = 0 := by
  unfold mayE
  rw [pre_one, h6, h7, pre_nil]
  simp only [List.append_nil, scanE_cons]
  have : stepE (0 + 1) (0, x) = 0 := by
    unfold stepE
    rw [if_neg (fun h => by have := h.2; simp only at this; omega), if_neg]
    rintro (h | h)
    · omega
    · rw [hm] at h
      cases h
  rw [if_pos this]
  rfl
theorem one_no {x : S44} (hm : mayB x = false) : mayE [x] = 1400 := by
  unfold mayE
  rw [pre_cons, scanE_cons]
  have : stepE (0 + 1) (0, x) = 1400 := by
    unfold stepE
    rw [if_neg (fun h => by have := h.2; simp only at this; omega), if_pos (.inr hm)]
  rw [if_neg (by rw [this]; decide), this]
theorem one_put {x : S44} (h6 : x.f6 = []) (h7 : x.f7 = []) : putS [x] = strOfNums ((x.f0 % 256 :: behind x [] []) ++ [11]) := by
  unfold putS
  rw [putL_cons, putL_nil, List.append_nil]
  unfold oneL
  rw [h6, h7, putL_nil]
theorem rng_str {ns : List Int} (h : ∀ x ∈ ns, 0 ≤ x ∧ x < 256) : PAt (strOfNums ns) 0 ns ∨ 140737488355328 < ns.length := by
  by_cases hl : ns.length ≤ 140737488355328
  · left
    refine ⟨by omega, by omega, by rw [size_str]; omega, fun i hi hs => ?_⟩
    unfold LebFns.byt
    rw [Int.zero_add]
    refine bt_str _ i ?_
    unfold nth
    rw [List.getD_eq_getElem?_getD, List.getElem?_eq_getElem hi]
    exact h _ (List.getElem_mem hi)
  · right
    omega
theorem get_no {o : Int} (h0 : 0 ≤ o) (h1 : o < 256) (hk : ofF o = 0) (h11 : o ≠ 11) : pGet (strOfNums [o, 0, 0, 0, 0]) 0 = .error 1403 := by
  have hp : PAt (strOfNums [o, 0, 0, 0, 0]) 0 [o, 0, 0, 0, 0] := (rng_str (by simp; omega)).resolve_right (by simp)
  have hz : (strOfNums [o, 0, 0, 0, 0]).size = 5 := by rw [size_str]; rfl
  unfold pGet
  rw [if_neg (by omega), hz, pList, (byte_rd hp).1 (by omega)]
  simp only
  rw [if_neg h11, if_neg (by simp), if_pos hk]
theorem get_11 : pGet (strOfNums [11, 0, 0, 0, 0]) 0 = .ok ([], 1) := by
  have hp : PAt (strOfNums [11, 0, 0, 0, 0]) 0 [11, 0, 0, 0, 0] := (rng_str (by simp)).resolve_right (by simp)
  have hz : (strOfNums [11, 0, 0, 0, 0]).size = 5 := by rw [size_str]; rfl
  unfold pGet
  rw [if_neg (by omega), hz, pList, (byte_rd hp).1 (by omega)]
  simp
theorem row1 {W : World} {g : Nat} {a : Int} (h : W.heap[g]? = some (.cells #[.int .u8 a] 5 (0, 0))) : ∀ j, j < [a].length → W.cell? ⟨g, j, none⟩ = some (.int .u8 ([a].getD j 0)) := by
  intro j hj
  rw [blk_cell h j]
  match j, hj with
  | 0, _ => rfl
theorem row2 {W : World} {g : Nat} {a b : Int} (h : W.heap[g]? = some (.cells #[.int .u8 a, .int .u8 b] 5 (0, 0))) : ∀ j, j < [a, b].length → W.cell? ⟨g, j, none⟩ = some (.int .u8 ([a, b].getD j 0)) := by
  intro j hj
  rw [blk_cell h j]
  match j, hj with
  | 0, _ => rfl
  | 1, _ => rfl
theorem row3 {W : World} {g : Nat} {a b c : Int} (h : W.heap[g]? = some (.cells #[.int .u8 a, .int .u8 b, .int .u8 c] 5 (0, 0))) : ∀ j, j < [a, b, c].length → W.cell? ⟨g, j, none⟩ = some (.int .u8 ([a, b, c].getD j 0)) := by
  intro j hj
  rw [blk_cell h j]
  match j, hj with
  | 0, _ => rfl
  | 1, _ => rfl
  | 2, _ => rfl
theorem row5 {W : World} {g : Nat} {a b c d e : Int} (h : W.heap[g]? = some (.cells #[.int .u8 a, .int .u8 b, .int .u8 c, .int .u8 d, .int .u8 e] 5 (0, 0))) : ∀ j, j < [a, b, c, d, e].length → W.cell? ⟨g, j, none⟩ = some (.int .u8 ([a, b, c, d, e].getD j 0)) := by
  intro j hj
  rw [blk_cell h j]
  match j, hj with
  | 0, _ => rfl
  | 1, _ => rfl
  | 2, _ => rfl
  | 3, _ => rfl
  | 4, _ => rfl
theorem c_lab1 {W : World} {g gl : Nat} {op : Int} {l : List Int} (h : W.heap[g]? = some (.cells #[.int .i64 op, .int .i64 0, .int .i64 0, .int .i64 0, .int .i64 0, .slice (some ⟨gl, 0, none⟩) l.length l.length, .slice none 0 0, .slice none 0 0] 44 (0, 0))) (hl : (Kd.int .i64).C W (some ⟨gl, 0, none⟩) l.length l) : k44.C W (some ⟨g, 0, none⟩) 1 [⟨op, 0, 0, 0, 0, l, [], []⟩] :=
  c_reps (d := k44) (xs := [(⟨op, 0, 0, 0, 0, l, [], []⟩ : S44)]) (inner := [.int .i64 op, .int .i64 0, .int .i64 0, .int .i64 0, .int .i64 0, .slice (some ⟨gl, 0, none⟩) l.length l.length, .slice none 0 0, .slice none 0 0]) h (reps_one rfl (k44_mk W ⟨op, 0, 0, 0, 0, l, [], []⟩ (Nat.le_refl _) hl (Nat.le_refl _) (c_nil _ W) (Nat.le_refl _) (c_nil _ W))) (by simp)
theorem c_int1o {W : World} {g : Nat} {x : Int} (h : W.heap[g]? = some (.cells #[.int .i64 x] 3 (0, 0))) : (Kd.int .i64).C W (some ⟨g, 0, none⟩) 1 [x] :=
  c_reps (d := Kd.int .i64) (xs := [x]) (inner := [.int .i64 x]) h (reps_one rfl rfl) (by simp)
theorem same_leaf {W : World} {A : Option Addr} {d : Nat} {o a b c t : Int} (hX : k44.C W A 1 [⟨o, a, b, c, t, [], [], []⟩]) (hd : 1 ≤ d) :
    Calls Try.prog 19 #[.slice A 1 d, .slice (some ⟨W.heap.size, 0, none⟩) 1 1] (W.alloc (.cells #[.int .i64 o, .int .i64 a, .int .i64 b, .int .i64 c, .int .i64 t, .slice none 0 0, .slice none 0 0, .slice none 0 0] 44)) fun e w' => e = .returned (.bool true) ∧ Below W.heap.size W w' :=
  have hb : Below W.heap.size W (W.alloc (.cells #[.int .i64 o, .int .i64 a, .int .i64 b, .int .i64 c, .int .i64 t, .slice none 0 0, .slice none 0 0, .slice none 0 0] 44)) := below_alloc (Below.refl _ _) _
  (same_ok (is := [⟨o, a, b, c, t, [], [], []⟩]) (Kd.C_below hX hb) (c_leaf (blk_new W _)) rfl hd (Nat.le_refl _)).mono fun e w' h => ⟨h.1, below_step hb h.2⟩
theorem same_lab {W : World} {A : Option Addr} {d gl : Nat} {o x : Int} (hX : k44.C W A 1 [⟨o, 0, 0, 0, 0, [x], [], []⟩]) (hd : 1 ≤ d) (hl : W.heap[gl]? = some (.cells #[.int .i64 x] 3 (0, 0))) :
    Calls Try.prog 19 #[.slice A 1 d, .slice (some ⟨W.heap.size, 0, none⟩) 1 1] (W.alloc (.cells #[.int .i64 o, .int .i64 0, .int .i64 0, .int .i64 0, .int .i64 0, .slice (some ⟨gl, 0, none⟩) 1 1, .slice none 0 0, .slice none 0 0] 44)) fun e w' => e = .returned (.bool true) ∧ Below W.heap.size W w' :=
  have hb : Below W.heap.size W (W.alloc (.cells #[.int .i64 o, .int .i64 0, .int .i64 0, .int .i64 0, .int .i64 0, .slice (some ⟨gl, 0, none⟩) 1 1, .slice none 0 0, .slice none 0 0] 44)) := below_alloc (Below.refl _ _) _
  (same_ok (is := [⟨o, 0, 0, 0, 0, [x], [], []⟩]) (Kd.C_below hX hb) (c_lab1 (l := [x]) (blk_new W _) (c_int1o (blk_below hl hb))) rfl hd (Nat.le_refl _)).mono fun e w' h => ⟨h.1, below_step hb h.2⟩
theorem ys8 {W : World} {g : Nat} {v0 v1 v2 v3 v4 v5 v6 v7 : Value} (h : W.heap[g]? = some (.cells #[v0, v1, v2, v3, v4, v5, v6, v7] 44 (0, 0))) : W.cell? ⟨g, 0, none⟩ = some v0 ∧ W.cell? ⟨g, 1, none⟩ = some v1 ∧ W.cell? ⟨g, 2, none⟩ = some v2 ∧ W.cell? ⟨g, 3, none⟩ = some v3 ∧ W.cell? ⟨g, 4, none⟩ = some v4 ∧ W.cell? ⟨g, 5, none⟩ = some v5 ∧ W.cell? ⟨g, 6, none⟩ = some v6 ∧ W.cell? ⟨g, 7, none⟩ = some v7 :=
  ⟨blk_cell h 0, blk_cell h 1, blk_cell h 2, blk_cell h 3, blk_cell h 4, blk_cell h 5, blk_cell h 6, blk_cell h 7⟩
theorem u8_id {o : Int} (h0 : 0 ≤ o) (h1 : o < 256) : IntKind.u8.wrap o = o := by rw [LebMath.u8_eq]; omega
theorem oof_0 {o : Int} (h : (0 ≤ o ∧ o ≤ 0) ∨ (1 ≤ o ∧ o ≤ 1) ∨ (15 ≤ o ∧ o ≤ 15) ∨ (26 ≤ o ∧ o ≤ 26) ∨ (27 ≤ o ∧ o ≤ 27) ∨ (69 ≤ o ∧ o ≤ 191)) : ofF o = 1 := by
  unfold ofF
  repeat' split
  all_goals omega
theorem omay_0 {o : Int} (h : (0 ≤ o ∧ o ≤ 0) ∨ (1 ≤ o ∧ o ≤ 1) ∨ (15 ≤ o ∧ o ≤ 15) ∨ (26 ≤ o ∧ o ≤ 26) ∨ (27 ≤ o ∧ o ≤ 27) ∨ (69 ≤ o ∧ o ≤ 191)) : mayE [(⟨o, 0, 0, 0, 0, [], [], []⟩ : S44)] = 0 := one_may rfl rfl (by
  have hk := oof_0 h
  unfold mayB mayA mayC mayN mayT mayL mayI
  simp [hk, typeB, u32B])
theorem oput_0 {o : Int} (h : (0 ≤ o ∧ o ≤ 0) ∨ (1 ≤ o ∧ o ≤ 1) ∨ (15 ≤ o ∧ o ≤ 15) ∨ (26 ≤ o ∧ o ≤ 26) ∨ (27 ≤ o ∧ o ≤ 27) ∨ (69 ≤ o ∧ o ≤ 191)) : putS [(⟨o, 0, 0, 0, 0, [], [], []⟩ : S44)] = strOfNums ([o] ++ [11]) := by
  rw [one_put rfl rfl]
  have hk := oof_0 h
  have e : o % 256 = o := by omega
  have eb : behind ⟨o, 0, 0, 0, 0, [], [], []⟩ [] [] = [] := by
    unfold behind
    simp [hk]
  simp only [e, eb]
theorem oof_1 {o : Int} (h : 2 ≤ o ∧ o ≤ 4) : ofF o = 2 := by
  unfold ofF
  repeat' split
  all_goals omega
theorem omay_1 {o : Int} (h : 2 ≤ o ∧ o ≤ 4) : mayE [(⟨o, 0, 0, 0, 64, [], [], []⟩ : S44)] = 0 := one_may rfl rfl (by
  have hk := oof_1 h
  unfold mayB mayA mayC mayN mayT mayL mayI
  simp [hk, typeB, u32B])
theorem oput_1 {o : Int} (h : 2 ≤ o ∧ o ≤ 4) : putS [(⟨o, 0, 0, 0, 64, [], [], []⟩ : S44)] = strOfNums ([o, 64, 11] ++ [11]) := by
  rw [one_put rfl rfl]
  have hk := oof_1 h
  have e : o % 256 = o := by omega
  have eb : behind ⟨o, 0, 0, 0, 64, [], [], []⟩ [] [] = [64, 11] := by
    unfold behind
    simp [hk]
  simp only [e, eb]
theorem oof_2 {o : Int} (h : (5 ≤ o ∧ o ≤ 10) ∨ (18 ≤ o ∧ o ≤ 25) ∨ (28 ≤ o ∧ o ≤ 31) ∨ (37 ≤ o ∧ o ≤ 39) ∨ (192 ≤ o ∧ o ≤ 255)) : ofF o = 0 := by
  unfold ofF
  repeat' split
  all_goals omega
theorem omay_2 {o : Int} (h : (5 ≤ o ∧ o ≤ 10) ∨ (18 ≤ o ∧ o ≤ 25) ∨ (28 ≤ o ∧ o ≤ 31) ∨ (37 ≤ o ∧ o ≤ 39) ∨ (192 ≤ o ∧ o ≤ 255)) : mayE [(⟨o, 0, 0, 0, 0, [], [], []⟩ : S44)] = 1400 := one_no (by
  have hk := oof_2 h
  unfold mayB
  simp [hk])
theorem oof_3 {o : Int} (h : 11 ≤ o ∧ o ≤ 11) : ofF o = 0 := by
  unfold ofF
  repeat' split
  all_goals omega
theorem omay_3 {o : Int} (h : 11 ≤ o ∧ o ≤ 11) : mayE [(⟨o, 0, 0, 0, 0, [], [], []⟩ : S44)] = 1400 := one_no (by
  have hk := oof_3 h
  unfold mayB
  simp [hk])
theorem oof_4 {o : Int} (h : (12 ≤ o ∧ o ≤ 12) ∨ (13 ≤ o ∧ o ≤ 13) ∨ (16 ≤ o ∧ o ≤ 16) ∨ (32 ≤ o ∧ o ≤ 36)) : ofF o = 3 := by
  unfold ofF
  repeat' split
  all_goals omega
theorem omay_4 {o : Int} (h : (12 ≤ o ∧ o ≤ 12) ∨ (13 ≤ o ∧ o ≤ 13) ∨ (16 ≤ o ∧ o ≤ 16) ∨ (32 ≤ o ∧ o ≤ 36)) : mayE [(⟨o, 5, 0, 0, 0, [], [], []⟩ : S44)] = 0 := one_may rfl rfl (by
  have hk := oof_4 h
  unfold mayB mayA mayC mayN mayT mayL mayI
  simp [hk, typeB, u32B])
theorem oput_4 {o : Int} (h : (12 ≤ o ∧ o ≤ 12) ∨ (13 ≤ o ∧ o ≤ 13) ∨ (16 ≤ o ∧ o ≤ 16) ∨ (32 ≤ o ∧ o ≤ 36)) : putS [(⟨o, 5, 0, 0, 0, [], [], []⟩ : S44)] = strOfNums ([o, 5] ++ [11]) := by
  rw [one_put rfl rfl]
  have hk := oof_4 h
  have e : o % 256 = o := by omega
  have eb : behind ⟨o, 5, 0, 0, 0, [], [], []⟩ [] [] = [5] := by
    unfold behind
    simp [hk]
    try decide +kernel
  simp only [e, eb]
theorem oof_5 {o : Int} (h : 14 ≤ o ∧ o ≤ 14) : ofF o = 4 := by
  unfold ofF
  repeat' split
  all_goals omega
theorem omay_5 {o : Int} (h : 14 ≤ o ∧ o ≤ 14) : mayE [(⟨o, 0, 0, 0, 0, [3], [], []⟩ : S44)] = 0 := one_may rfl rfl (by
  have hk := oof_5 h
  obtain rfl : o = 14 := by omega
  decide +kernel)
theorem oput_5 {o : Int} (h : 14 ≤ o ∧ o ≤ 14) : putS [(⟨o, 0, 0, 0, 0, [3], [], []⟩ : S44)] = strOfNums ([o, 0, 3] ++ [11]) := by
  rw [one_put rfl rfl]
  have hk := oof_5 h
  have e : o % 256 = o := by omega
  have eb : behind ⟨o, 0, 0, 0, 0, [3], [], []⟩ [] [] = [0, 3] := by
    obtain rfl : o = 14 := by omega
    decide +kernel
  simp only [e, eb]
theorem oof_6 {o : Int} (h : 17 ≤ o ∧ o ≤ 17) : ofF o = 5 := by
  unfold ofF
  repeat' split
  all_goals omega
theorem omay_6 {o : Int} (h : 17 ≤ o ∧ o ≤ 17) : mayE [(⟨o, 2, 0, 0, 0, [], [], []⟩ : S44)] = 0 := one_may rfl rfl (by
  have hk := oof_6 h
  obtain rfl : o = 17 := by omega
  decide +kernel)
theorem oput_6 {o : Int} (h : 17 ≤ o ∧ o ≤ 17) : putS [(⟨o, 2, 0, 0, 0, [], [], []⟩ : S44)] = strOfNums ([o, 2, 0] ++ [11]) := by
  rw [one_put rfl rfl]
  have hk := oof_6 h
  have e : o % 256 = o := by omega
  have eb : behind ⟨o, 2, 0, 0, 0, [], [], []⟩ [] [] = [2, 0] := by
    obtain rfl : o = 17 := by omega
    decide +kernel
  simp only [e, eb]
theorem oof_7 {o : Int} (h : 40 ≤ o ∧ o ≤ 62) : ofF o = 6 := by
  unfold ofF
  repeat' split
  all_goals omega
theorem omay_7 {o : Int} (h : 40 ≤ o ∧ o ≤ 62) : mayE [(⟨o, 1, 7, 0, 0, [], [], []⟩ : S44)] = 0 := one_may rfl rfl (by
  have hk := oof_7 h
  unfold mayB mayA mayC mayN mayT mayL mayI
  simp [hk, typeB, u32B])
theorem oput_7 {o : Int} (h : 40 ≤ o ∧ o ≤ 62) : putS [(⟨o, 1, 7, 0, 0, [], [], []⟩ : S44)] = strOfNums ([o, 1, 7] ++ [11]) := by
  rw [one_put rfl rfl]
  have hk := oof_7 h
  have e : o % 256 = o := by omega
  have eb : behind ⟨o, 1, 7, 0, 0, [], [], []⟩ [] [] = [1, 7] := by
    unfold behind
    simp [hk]
    try decide +kernel
  simp only [e, eb]
theorem oof_8 {o : Int} (h : (63 ≤ o ∧ o ≤ 63) ∨ (64 ≤ o ∧ o ≤ 64)) : ofF o = 7 := by
  unfold ofF
  repeat' split
  all_goals omega
theorem omay_8 {o : Int} (h : (63 ≤ o ∧ o ≤ 63) ∨ (64 ≤ o ∧ o ≤ 64)) : mayE [(⟨o, 0, 0, 0, 0, [], [], []⟩ : S44)] = 0 := one_may rfl rfl (by
  have hk := oof_8 h
  unfold mayB mayA mayC mayN mayT mayL mayI
  simp [hk, typeB, u32B])
theorem oput_8 {o : Int} (h : (63 ≤ o ∧ o ≤ 63) ∨ (64 ≤ o ∧ o ≤ 64)) : putS [(⟨o, 0, 0, 0, 0, [], [], []⟩ : S44)] = strOfNums ([o, 0] ++ [11]) := by
  rw [one_put rfl rfl]
  have hk := oof_8 h
  have e : o % 256 = o := by omega
  have eb : behind ⟨o, 0, 0, 0, 0, [], [], []⟩ [] [] = [0] := by
    unfold behind
    simp [hk]
  simp only [e, eb]
theorem oof_9 {o : Int} (h : (65 ≤ o ∧ o ≤ 65) ∨ (66 ≤ o ∧ o ≤ 66)) : ofF o = 8 := by
  unfold ofF
  repeat' split
  all_goals omega
theorem omay_9 {o : Int} (h : (65 ≤ o ∧ o ≤ 65) ∨ (66 ≤ o ∧ o ≤ 66)) : mayE [(⟨o, 0, 0, 9, 0, [], [], []⟩ : S44)] = 0 := one_may rfl rfl (by
  have hk := oof_9 h
  rcases h with h | h
  · obtain rfl : o = 65 := by omega
    decide +kernel
  · obtain rfl : o = 66 := by omega
    decide +kernel)
theorem oput_9 {o : Int} (h : (65 ≤ o ∧ o ≤ 65) ∨ (66 ≤ o ∧ o ≤ 66)) : putS [(⟨o, 0, 0, 9, 0, [], [], []⟩ : S44)] = strOfNums ([o, 9] ++ [11]) := by
  rw [one_put rfl rfl]
  have hk := oof_9 h
  have e : o % 256 = o := by omega
  have eb : behind ⟨o, 0, 0, 9, 0, [], [], []⟩ [] [] = [9] := by
    rcases h with h | h
    · obtain rfl : o = 65 := by omega
      decide +kernel
    · obtain rfl : o = 66 := by omega
      decide +kernel
  simp only [e, eb]
theorem oof_10 {o : Int} (h : 67 ≤ o ∧ o ≤ 67) : ofF o = 9 := by
  unfold ofF
  repeat' split
  all_goals omega
theorem omay_10 {o : Int} (h : 67 ≤ o ∧ o ≤ 67) : mayE [(⟨o, 0, 0, 1, 0, [], [], []⟩ : S44)] = 0 := one_may rfl rfl (by
  have hk := oof_10 h
  obtain rfl : o = 67 := by omega
  decide +kernel)
theorem oput_10 {o : Int} (h : 67 ≤ o ∧ o ≤ 67) : putS [(⟨o, 0, 0, 1, 0, [], [], []⟩ : S44)] = strOfNums ([o, 1, 0, 0, 0] ++ [11]) := by
  rw [one_put rfl rfl]
  have hk := oof_10 h
  have e : o % 256 = o := by omega
  have eb : behind ⟨o, 0, 0, 1, 0, [], [], []⟩ [] [] = [1, 0, 0, 0] := by
    obtain rfl : o = 67 := by omega
    decide +kernel
  simp only [e, eb]
theorem oof_11 {o : Int} (h : 68 ≤ o ∧ o ≤ 68) : ofF o = 9 := by
  unfold ofF
  repeat' split
  all_goals omega
theorem omay_11 {o : Int} (h : 68 ≤ o ∧ o ≤ 68) : mayE [(⟨o, 0, 0, 1, 0, [], [], []⟩ : S44)] = 0 := one_may rfl rfl (by
  have hk := oof_11 h
  obtain rfl : o = 68 := by omega
  decide +kernel)
theorem oput_11 {o : Int} (h : 68 ≤ o ∧ o ≤ 68) : putS [(⟨o, 0, 0, 1, 0, [], [], []⟩ : S44)] = strOfNums ([o, 1, 0, 0, 0, 0, 0, 0, 0] ++ [11]) := by
  rw [one_put rfl rfl]
  have hk := oof_11 h
  have e : o % 256 = o := by omega
  have eb : behind ⟨o, 0, 0, 1, 0, [], [], []⟩ [] [] = [1, 0, 0, 0, 0, 0, 0, 0] := by
    obtain rfl : o = 68 := by omega
    decide +kernel
  simp only [e, eb]
end Go.Proofs.Ytbekfmeaeaghpaa.EInstr
