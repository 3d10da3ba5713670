/-
  InstrNests: the walk.
-/
import Derived.Test.YtbekfmeaeaghpaaD14G
namespace Go.Proofs.Ytbekfmeaeaghpaa.EInstr
open Go Go.RowKit Go.Proofs.Ytbekfmeaeaghpaa.F Go.Proofs.YtbekfmeaeaghpaaW.Hand Go.Proofs.YtbekfmeaeaghpaaW.PrintWords Go.Proofs.YtbekfmeaeaghpaaW.PrintLast Go.Proofs.YtbekfmeaeaghpaaW.PrintMore
open Go.Proofs.YtbekfmeaeaghpaaW.Byt
set_option linter.unusedVariables false
set_option linter.unusedSimpArgs false

open Go.Proofs.Ytbekfmeaeaghpaa.LebBacks (size_str nth bt_str)
def nest (o : Int) : Nat → List S44
  | 0 => []
  | n + 1 => [⟨o, 0, 0, 0, 64, [], nest o n, []⟩]
def fl (o : Int) : Nat → List Int
  | 0 => []
  | n + 1 => o :: 64 :: fl o n
theorem fl_snoc (o : Int) : ∀ n, fl o n ++ [o, 64] = fl o (n + 1)
  | 0 => rfl
  | n + 1 => by
    have := fl_snoc o n
    rw [fl, List.cons_append, List.cons_append, this]
    rfl
theorem fl_len (o : Int) : ∀ n, (fl o n).length = 2 * n
  | 0 => rfl
  | n + 1 => by
    rw [fl, List.length_cons, List.length_cons, fl_len o n]
    omega
structure Bl (o : Int) : Prop where
  out : o = 2 ∨ o = 3 ∨ o = 4
theorem Bl.of {o : Int} (h : Bl o) : ofF o = 2 := by rcases h.out with rfl | rfl | rfl <;> decide
theorem Bl.may {o : Int} (h : Bl o) (b : List S44) : mayB ⟨o, 0, 0, 0, 64, [], b, []⟩ = true := by
  rcases h.out with rfl | rfl | rfl <;> simp [mayB, mayA, mayC, mayN, mayT, mayL, mayI, ofF, typeB]
theorem nest_wf (o : Int) : ∀ n, wf64 (nest o n)
  | 0 => wf64_nil
  | n + 1 => by
    have := nest_wf o n
    simp [nest, wf64_cons, wf64_nil, this]
theorem nest_put {o : Int} (h : Bl o) : ∀ n, putL (nest o n) = fl o n ++ List.replicate n 11
  | 0 => by rw [nest, putL_nil]; rfl
  | n + 1 => by
    rw [nest, putL_cons, putL_nil, List.append_nil]
    unfold oneL behind
    simp only [h.of, if_true, List.length_nil, show ¬ (0 < 0) by omega, if_false, List.append_nil, nest_put h n]
    have e : o % 256 = o := by rcases h.out with rfl | rfl | rfl <;> rfl
    rw [e, fl, List.replicate_succ']
    simp
theorem nest_putS {o : Int} (h : Bl o) (n : Nat) : putS (nest o n) = strOfNums (fl o n ++ List.replicate (n + 1) 11) := by
  unfold putS
  rw [nest_put h, List.replicate_succ', List.append_assoc]
theorem nest_pre {o : Int} (h : Bl o) : ∀ (n d c : Nat), d ≤ 32 → c + n ≤ 8192 → scanE stepE c (pre d (nest o n)) = if 32 < d + n then 1402 else 0
  | 0, d, c, hd, hc => by
    rw [nest, pre_nil, if_neg (by omega)]
    rfl
  | n + 1, d, c, hd, hc => by
    rw [nest, pre_cons]
    simp only [pre_nil, List.append_nil, scanE_cons]
    by_cases h32 : d = 32
    · have : stepE (c + 1) (d, (⟨o, 0, 0, 0, 64, [], nest o n, []⟩ : S44)) = 1402 := by
        unfold stepE
        rw [if_pos ⟨h.of, by simp only; omega⟩]
      rw [if_neg (by rw [this]; decide), this, if_pos (by omega)]
    · have : stepE (c + 1) (d, (⟨o, 0, 0, 0, 64, [], nest o n, []⟩ : S44)) = 0 := by
        unfold stepE
        rw [if_neg (fun hh => by have := hh.2; simp only at this; omega), if_neg]
        rintro (hh | hh)
        · omega
        · rw [h.may] at hh
          cases hh
      rw [if_pos this, nest_pre h n (d + 1) (c + 1) (by omega) (by omega), show d + 1 + n = d + (n + 1) by omega]
theorem nest_len {o : Int} : ∀ (n d : Nat), (pre d (nest o n)).length = n
  | 0, d => by rw [nest, pre_nil]; rfl
  | n + 1, d => by
    rw [nest, pre_cons]
    simp [pre_nil, nest_len n (d + 1)]
theorem nest_count {o : Int} (n : Nat) (hn : n ≤ 63) : countF (nest o n) = n := by
  unfold countF
  rw [List.length_take, nest_len]
  omega
theorem nest_may {o : Int} (h : Bl o) {n : Nat} (hn : n ≤ 32) : mayE (nest o n) = 0 := by
  unfold mayE
  rw [nest_pre h n 0 0 (by omega) (by omega), if_neg (by omega)]
theorem nest_deep {o : Int} (h : Bl o) {n : Nat} (hn : 32 < n) (h2 : n ≤ 63) : mayE (nest o n) = 1402 := by
  unfold mayE
  rw [nest_pre h n 0 0 (by omega) (by omega), if_pos (by omega)]
/-- Too deep for the reader. -/
theorem deep_list {o : Int} (h : Bl o) {s : ByteArray} : ∀ (n N d : Nat) (fol : Bool) (a m : Int) (es : List Int), d ≤ 32 → 32 < d + n → PAt s a (fl o n ++ es) → a + 2 * (n : Int) ≤ s.size → (s.size : Int) - a < N → m + n ≤ 8192 → pList s N (d : Int) fol a m = .error 1402
  | 0, N, d, fol, a, m, es, hd, hn, hp, hs, hN, hm => by omega
  | n + 1, N, d, fol, a, m, es, hd, hn, hp, hs, hN, hm => by
    have h0 := hp.1
    obtain ⟨k, rfl⟩ : ∃ k, N = k + 1 := ⟨N - 1, by omega⟩
    rw [fl, List.cons_append, List.cons_append] at hp
    have r := byte_rd hp
    have hp1 := hp.tail (by omega)
    have r1 := byte_rd hp1
    have hp2 := hp1.tail (by omega)
    rw [pList, r.1 (by omega)]
    simp only
    have hof := h.of
    rw [if_neg (by rcases h.out with rfl | rfl | rfl <;> decide), if_neg (fun hh => by rcases h.out with rfl | rfl | rfl <;> exact absurd hh.1 (by decide)), if_neg (by omega), if_neg (by omega)]
    have ho : pOne s (pList s k) o d (a + 1) (m + 1) = .error 1402 := by
      unfold pOne pBlock
      rw [if_pos hof]
      by_cases h32 : d = 32
      · rw [if_pos (by omega)]
      · rw [if_neg (by omega), r1.1 (by omega)]
        simp only
        rw [if_neg (by decide)]
        have := deep_list h n k (d + 1) (o == 4) (a + 1 + 1) (m + 1) es (by omega) (by omega) hp2 (by omega) (by omega) (by omega)
        rw [show (((d + 1 : Nat)) : Int) = (d : Int) + 1 from rfl] at this
        rw [this]
    rw [ho]
theorem deep_get {o : Int} (h : Bl o) {n : Nat} (hn : 32 < n) (h2 : n ≤ 63) : pGet (strOfNums (fl o n ++ List.replicate (n + 1) 11)) 0 = .error 1402 := by
  have hz : (strOfNums (fl o n ++ List.replicate (n + 1) 11)).size = 3 * n + 1 := by
    rw [size_str]
    simp [fl_len]
    omega
  have hp : PAt (strOfNums (fl o n ++ List.replicate (n + 1) 11)) 0 (fl o n ++ List.replicate (n + 1) 11) := ⟨by omega, by omega, by omega, fun i hi hs => by
    unfold LebFns.byt
    rw [Int.zero_add]
    refine bt_str _ i ?_
    have := putS_rng (nest_wf o n) i
    rw [nest_put h, List.append_assoc, ← List.replicate_succ'] at this
    exact this⟩
  have := deep_list h n ((strOfNums (fl o n ++ List.replicate (n + 1) 11)).size + 1) 0 false 0 0 _ (by omega) (by omega) hp (by rw [hz]; omega) (by omega) (by omega)
  unfold pGet
  rw [if_neg (by omega)]
  rw [show (((0 : Nat)) : Int) = 0 from rfl] at this
  rw [this]
def RelN1 (W : World) (o : Int) (k : Nat) (v7 v8 v9 : Value) (wr : World) : Prop :=
  ∃ (i : Nat) (A : Option Addr) (c : Nat) (s : ByteArray), v9 = .int .i64 (i : Int) ∧ v7 = .slice A (nest o i).length c ∧ v8 = .string s ∧ (i ≤ k ∧ (nest o i).length ≤ c ∧ s = strOfNums (fl o i)) ∧ k44.C wr A (nest o i).length (nest o i) ∧ Below W.heap.size W wr
def RelN2 (W W1 : World) (o : Int) (k : Nat) (v8 v10 : Value) (wr : World) : Prop :=
  ∃ (j : Nat) (s : ByteArray), v10 = .int .i64 (j : Int) ∧ v8 = .string s ∧ (j ≤ k + 1 ∧ s = strOfNums (fl o k ++ List.replicate j 11)) ∧ Below W1.heap.size W1 wr ∧ Below W.heap.size W wr
theorem row2 {W : World} {g : Nat} {a b : Int} (h : W.heap[g]? = some (.cells #[.int .u8 a, .int .u8 b] 5 (0, 0))) : ∀ j, j < [a, b].length → W.cell? ⟨g, j, none⟩ = some (.int .u8 ([a, b].getD j 0)) := by
  intro j hj
  rw [blk_cell h j]
  match j, hj with
  | 0, _ => rfl
  | 1, _ => rfl
set_option maxHeartbeats 8000000 in
set_option maxRecDepth 100000 in
theorem nests_0 (W : World) (x y o : Int) (k : Nat) (hx : Go.bits .and .i64 x 63 = (k : Int)) (hk : k ≤ 63) (hy : wrap64 (2 + wrap64 ((IntKind.u64.wrap y).tmod 3)) = o) (ho : Bl o) : Calls Try.prog 6 #[.int .i64 x, .int .i64 y] W fun e w' => e = .returned (.bool true) ∧ Below W.heap.size W w' := by
  have B := Aside0.mk (Below.refl W.heap.size W)
  have HO := Aside0.mk ho
  have HK := Aside0.mk hk
  have u8 : IntKind.u8.wrap o = o := by rcases ho.out with rfl | rfl | rfl <;> decide
  clear ho
  go_enter Try.func6, Try.ntmps6
  go_wp2_with (first
    | (go_at_call 20; (with_reducible refine (awake14_c _).mono ?_); rintro e w1 ⟨rfl, hb⟩; replace B := Aside0.mk (below_step B.out hb); clear hb))
  simp only [hy]
  clear hy
  go_loopw [7, 8, 9] (fun v7 v8 v9 wr => RelN1 W o k v7 v8 v9 wr) (fun _ _ v9 _ => k - (intOf v9).toNat)
  case atStart => exact ⟨0, none, 0, _, rfl, rfl, rfl, ⟨Nat.zero_le _, Nat.le_refl _, rfl⟩, c_nil _ _, B.out⟩
  case round =>
    clear B
    obtain ⟨i, A, c, s, rfl, rfl, rfl, hL, hC, hB⟩ := hrel
    have BR := Aside0.mk hB
    have HL := Aside0.mk hL
    have P := Aside0.mk hC
    clear hB hL hC
    by_cases hlt : i < k
    · have dl : decide (i < k) = true := decide_eq_true hlt
      have dl2 : decide ((i : Int) < (k : Int)) = true := decide_eq_true (by omega)
      have w2 : wrap64 ((i : Int) + 1) = (i : Int) + 1 := by unfold wrap64; omega
      have hsz : s.size = 2 * i := by rw [HL.out.2.2, size_str, fl_len]
      have f1 : ¬ 9223372036854775807 < s.size + (strOfNums [o, 64]).size := by rw [size_str, hsz]; simp only [List.length_cons, List.length_nil]; omega
      clear hsz
      go_wp2_with (first
        | ((with_reducible refine gate_dst (N := 33) rfl ?_); refine lit_event ?hg (N := 33) ?hd (cs := #[.int .i64 o, .int .i64 0, .int .i64 0, .int .i64 0, .int .i64 64, .slice none 0 0, .slice A (nest o i).length c, .slice none 0 0]) (t := 44) (n := 1) ?hr ?_; (case hd => rfl); (case hg => rfl); (case hr => first | (go_simp; done) | (go_simp; rfl)); intro g1 hgg1 w2 hA hb; replace BR := Aside0.mk (below_step BR.out hb); have P2 := Aside0.mk (show k44.C w2 (some ⟨g1, 0, none⟩) (nest o (i + 1)).length (nest o (i + 1)) from c_block (body := nest o i) (els := []) (c6 := c) (c7 := 0) hA HL.out.2.1 (Kd.C_below P.out hb) (Nat.le_refl _) (c_nil _ _)); clear hgg1 hA hb P)
        | ((with_reducible refine gate_dst (N := 37) rfl ?_); refine lit_event ?hg (N := 37) ?hd (cs := #[.int .u8 o, .int .u8 64]) (t := 5) (n := 2) ?hr ?_; (case hd => rfl); (case hg => rfl); (case hr => first | (go_simp; done) | (go_simp; rfl)); intro gq hggq w3 hA hb; replace BR := Aside0.mk (below_step BR.out hb); have P3 := Aside0.mk (Kd.C_below P2.out hb); have Q := Aside0.mk hA; clear hggq hA hb P2)
        | ((with_reducible refine gate_dst (N := 38) rfl ?_); refine string_event (g := gq) (n := 2) (c := 2) (ns := [o, 64]) rfl rfl rfl rfl Try.underlying45 Try.underlying5 Try.underlying9 (row2 Q.out) ?_))
      exact ⟨⟨i + 1, _, _, _, by simp, rfl, rfl, ⟨hlt, Nat.le_refl _, by rw [HL.out.2.2, str_app, fl_snoc]⟩, P3.out, BR.out⟩, by simp [intOf]; omega⟩
    · have dl : decide (i < k) = false := decide_eq_false hlt
      have dl2 : decide ((i : Int) < (k : Int)) = false := decide_eq_false (by omega)
      obtain rfl : k = i := by have := HL.out.1; omega
      have LC := Aside0.mk HL.out.2.1
      have HS := Aside0.mk HL.out.2.2
      clear HL
      go_wp2
      clear dl dl2 hlt
      go_loopw [8, 10] (fun v8 v10 wr2 => RelN2 W wr o k v8 v10 wr2) (fun _ v10 _ => (k + 1) - (intOf v10).toNat)
      case atStart => exact ⟨0, s, rfl, rfl, ⟨by omega, by rw [HS.out]; simp⟩, Below.refl _ _, BR.out⟩
      case round =>
        clear HS
        obtain ⟨j, s, rfl, rfl, hJ, hB1, hB⟩ := hrel
        have HJ := Aside0.mk hJ
        have B1 := Aside0.mk hB1
        have B := Aside0.mk hB
        clear hJ hB1 hB
        have hsz : s.size = 2 * k + j := by rw [HJ.out.2, size_str, List.length_append, fl_len, List.length_replicate]
        have HZ := Aside0.mk hsz
        by_cases hlt : j ≤ k
        · have dl : decide (j ≤ k) = true := decide_eq_true hlt
          have dl2 : decide ((j : Int) ≤ (k : Int)) = true := decide_eq_true (by omega)
          have w2 : wrap64 ((j : Int) + 1) = (j : Int) + 1 := by have := HK.out; unfold wrap64; omega
          have f1 : ¬ 9223372036854775807 < s.size + 1 := by have := HK.out; omega
          clear hsz
          go_wp2
          exact ⟨⟨j + 1, _, by first | rfl | simp, rfl, ⟨by omega, by rw [HJ.out.2]; exact (str_app _ [11]).trans (by rw [List.append_assoc, List.replicate_succ'])⟩, B1.out, B.out⟩, by simp [intOf]; omega⟩
        · have dl : decide (j ≤ k) = false := decide_eq_false hlt
          have dl2 : decide ((j : Int) ≤ (k : Int)) = false := decide_eq_false (by omega)
          obtain rfl : j = k + 1 := by have := HJ.out.1; omega
          replace P := Aside0.mk (Kd.C_below P.out B1.out)
          have SZ := Aside0.mk (show s.size ≤ 1152921504606846976 by have := HK.out; omega)
          have HS := Aside0.mk HJ.out.2
          clear hsz HZ HJ B1 BR
          by_cases hd : 32 < k
          · have d1 : decide (32 < k) = true := decide_eq_true hd
            have d2 : decide (32 < (k : Int)) = true := decide_eq_true (by omega)
            have d3 : decide ((k : Int) > 32) = true := decide_eq_true (by omega)
            have MD := Aside0.mk (nest_deep HO.out hd HK.out)
            have GD := Aside0.mk (show pGet s 0 = .error 1402 by rw [HS.out]; exact deep_get HO.out hd HK.out)
            go_wp2_with (first
              | (go_at_call 14; (with_reducible refine (put_er P.out rfl LC.out MD.out (by decide)).mono ?_); rintro e w11 ⟨rfl, hb⟩; replace P := Aside0.mk (Kd.C_below P.out hb); replace B := Aside0.mk (below_step B.out hb);  clear hb)
              | (go_at_call 21; (with_reducible refine (get_er GD.out SZ.out _).mono ?_); rintro e w12 ⟨rfl, hb⟩; replace P := Aside0.mk (Kd.C_below P.out hb); replace B := Aside0.mk (below_step B.out hb);  clear hb)
              | (go_at_call 16; (with_reducible refine (num_c _ _).mono ?_); rintro e w' ⟨rfl, rfl⟩))
            go_ret
            exact ⟨rfl, B.out⟩
          · have d1 : decide (32 < k) = false := decide_eq_false hd
            have d2 : decide (32 < (k : Int)) = false := decide_eq_false (by omega)
            have d3 : decide ((k : Int) > 32) = false := decide_eq_false (by omega)
            have MY := Aside0.mk (nest_may HO.out (n := k) (by omega))
            have SY := Aside0.mk (show putS (nest o k) = s by rw [HS.out]; exact nest_putS HO.out k)
            have GY := Aside0.mk (show pGet s 0 = .ok (nest o k, (s.size : Int)) by rw [← SY.out]; exact back_all (nest_wf o k) MY.out)
            have CN := Aside0.mk (show (countF (nest o k) : Int) = (k : Int) by rw [nest_count k HK.out])
            go_wp2_with (first
              | (go_at_call 14; (with_reducible refine (put_ok P.out rfl LC.out (nest_wf _ _) MY.out SY.out).mono ?_); rintro e w11 ⟨rfl, hb⟩; replace P := Aside0.mk (Kd.C_below P.out hb); replace B := Aside0.mk (below_step B.out hb);  clear hb)
              | (go_at_call 21; (with_reducible refine (get_ok (n := (nest o k).length) GY.out rfl SZ.out _).mono ?_); rintro e w12 ⟨AX, cX, rfl, hC, hc, hb⟩; replace P := Aside0.mk (Kd.C_below P.out hb); replace B := Aside0.mk (below_step B.out hb); have X := Aside0.mk hC; have LX := Aside0.mk hc; clear hC hc; clear hb)
              | (go_at_call 16; (with_reducible refine (num_c _ _).mono ?_); rintro e w' ⟨rfl, rfl⟩)
              | (go_at_call 19; (with_reducible refine (same_ok X.out P.out rfl LX.out LC.out).mono ?_); rintro e w13 ⟨rfl, hb⟩; replace P := Aside0.mk (Kd.C_below P.out hb); replace X := Aside0.mk (Kd.C_below X.out hb); replace B := Aside0.mk (below_step B.out hb);  clear hb)
              | (go_at_call 17; (with_reducible refine (count_ok P.out rfl LC.out CN.out).mono ?_); rintro e w14 ⟨rfl, hb⟩; replace P := Aside0.mk (Kd.C_below P.out hb); replace X := Aside0.mk (Kd.C_below X.out hb); replace B := Aside0.mk (below_step B.out hb);  clear hb))
            go_ret
            exact ⟨rfl, B.out⟩
theorem nests_calls (W : World) (x y : Int) : Calls Try.prog 6 #[.int .i64 x, .int .i64 y] W fun e w' => e = .returned (.bool true) ∧ Below W.heap.size W w' := by
  have h0 : 0 ≤ IntKind.u64.wrap y := by rw [LebMath.u64_eq]; omega
  have h1 : (IntKind.u64.wrap y).tmod 3 = (IntKind.u64.wrap y) % 3 := Int.tmod_eq_emod_of_nonneg h0
  refine nests_0 W x y _ (x % 64).toNat ((LebMath.and_mask x 6 (by omega) 63 rfl).trans ?_) (by omega) rfl ⟨?_⟩
  · rw [show ((2 ^ 6 : Nat) : Int) = 64 from rfl]
    omega
  · rw [h1]
    unfold wrap64
    omega
end Go.Proofs.Ytbekfmeaeaghpaa.EInstr
