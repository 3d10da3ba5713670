/-
  peloruslaw12.LebBack answers true: numbers come back.
-/
import Derived.Test.YtflejniglhjbfaaLebWalk
namespace Go.Proofs.Ytflejniglhjbfaa.LebWalk
open Go Go.RowKit Go.Proofs.YtflejniglhjbfaaW.Hand Go.Proofs.YtflejniglhjbfaaW.Byt Go.Proofs.YtflejniglhjbfaaW.PrintWords Go.Proofs.YtflejniglhjbfaaW.PrintLast Go.Proofs.YtflejniglhjbfaaW.PrintMore Go.Proofs.Ytflejniglhjbfaa.LebMath Go.Proofs.Ytflejniglhjbfaa.LebFns Go.Proofs.Ytflejniglhjbfaa.LebGets Go.Proofs.Ytflejniglhjbfaa.LebGetS Go.Proofs.Ytflejniglhjbfaa.LebBacks Go.Proofs.Ytflejniglhjbfaa.LebPads Go.Proofs.Ytflejniglhjbfaa.F
set_option linter.unusedVariables false
set_option linter.unusedSimpArgs false
theorem wf_i64 {x : Int} (h : (Lit.int .i64 x).wf = true) : -9223372036854775808 ≤ x ∧ x < 9223372036854775808 := Go.Proofs.Ytflejniglhjbfaa.Pure.wf_rangeR h
theorem and_20 (n : Int) : ∃ y, Go.bits .and .i64 n 1048575 = y ∧ 0 ≤ y ∧ y < 1048576 := by
  refine ⟨_, rfl, ?_⟩
  rw [and_mask n 20 (by decide) 1048575 (by decide)]
  have : ((2 ^ 20 : Nat) : Int) = 1048576 := by decide
  rw [this]
  omega
theorem and_1 (n : Int) : ∃ y : Nat, Go.bits .and .i64 n 1 = (y : Int) ∧ y ≤ 1 := by
  refine ⟨(n % 2).toNat, ?_, by omega⟩
  rw [and_mask n 1 (by decide) 1 (by decide)]
  have : ((2 ^ 1 : Nat) : Int) = 2 := by decide
  rw [this]
  omega
theorem len_u20 {ds : List Int} {u : Int} (hu : USpec ds u) (h : u < 1048576) : ds.length ≤ 3 := by
  by_cases c : 1 < ds.length
  · have := hu.lo c
    rcases Nat.lt_or_ge 3 ds.length with h6 | h6
    · have : (128 : Int) ^ 3 ≤ 128 ^ (ds.length - 1) := by
        have h7 : (128 : Nat) ^ 3 ≤ 128 ^ (ds.length - 1) := Nat.pow_le_pow_right (by omega) (by omega)
        exact_mod_cast h7
      have p5 : (128 : Int) ^ 3 = 2097152 := by decide
      omega
    · exact h6
  · omega
def RelB (w : World) (y : Int) (K : Nat) (n : Nat) (v15 : Value) (wr : World) : Prop :=
  ∃ (m g c : Nat) (ds : List Int), m + 1 + n = K ∧ v15 = .slice (some ⟨g, 0, none⟩) (m + 1) c ∧ ds.length = m + 1 ∧ BytAt wr 5 g c ds ∧ Pd 128 ds y ∧ w.heap.size ≤ g ∧ Below w.heap.size w wr
set_option maxHeartbeats 8000000 in
set_option maxRecDepth 100000 in
theorem back_calls {w : World} {x more : Int} {pre : ByteArray} (hx : -9223372036854775808 ≤ x ∧ x < 9223372036854775808) (hpre : pre.size ≤ 140737488351232) : Calls Try.prog 4 #[.int .i64 x, .string pre, .int .i64 more] w fun e w' => e = .returned (.bool true) ∧ Below w.heap.size w w' := by
  have hu5 := Try.underlying5
  have hu9 := Try.underlying9
  have hu31 := Try.underlying31
  have SX := Aside0.mk (U9 (x % 18446744073709551616) (by omega) (by omega))
  have TX := Aside0.mk (S9 x hx.1 hx.2)
  have C1 := Aside0.mk (put_c x)
  have C2 := Aside0.mk (puts_c x hx.1 hx.2)
  have zs := nums_len (U 9 (x % 18446744073709551616))
  have zt := nums_len (S 9 x)
  have LS := Aside0.mk SX.out.2
  have LT := Aside0.mk TX.out.2
  have A1 := Aside0.mk (fun h => at_mid pre ⟨#[122]⟩ (U 9 (x % 18446744073709551616)) SX.out.1.range h)
  have A2 := Aside0.mk (fun h => at_mid pre ⟨#[122]⟩ (S 9 x) TX.out.1.range h)
  obtain ⟨ds1, hd1⟩ : ∃ d, U 9 (x % 18446744073709551616) = d := ⟨_, rfl⟩
  obtain ⟨ds2, hd2⟩ : ∃ d, S 9 x = d := ⟨_, rfl⟩
  rw [hd1] at SX C1 zs LS A1
  rw [hd2] at TX C2 zt LT A2
  clear hd1 hd2
  obtain ⟨s, hs⟩ : ∃ s, strOfNums ds1 = s := ⟨_, rfl⟩
  obtain ⟨t, ht⟩ : ∃ s, strOfNums ds2 = s := ⟨_, rfl⟩
  rw [hs] at C1 zs A1
  rw [ht] at C2 zt A2
  clear hs ht
  obtain ⟨l1, hl1⟩ : ∃ l, ds1.length = l := ⟨_, rfl⟩
  obtain ⟨l2, hl2⟩ : ∃ l, ds2.length = l := ⟨_, rfl⟩
  have b1 : l1 ≤ 10 := by have := LS.out; omega
  have b2 : l2 ≤ 10 := by have := LT.out; omega
  rw [hl1] at zs
  rw [hl2] at zt
  have hq1 : (⟨#[122]⟩ : ByteArray).size = 1 := rfl
  have zz1 : (pre ++ s ++ ⟨#[122]⟩ : ByteArray).size ≤ 140737488355328 := by simp only [ByteArray.size_append, zs, hq1]; omega
  have zz2 : (pre ++ t ++ ⟨#[122]⟩ : ByteArray).size ≤ 140737488355328 := by simp only [ByteArray.size_append, zt, hq1]; omega
  have ww : wrap64 (x % 18446744073709551616) = x := by unfold wrap64; omega
  have G1 := Aside0.mk (fun W => get_c zz1 (get_u (A1.out zz1) SX.out.1 (.inr ⟨rfl, by omega⟩) (by rw [hl1]; exact b1)) W)
  have G2 := Aside0.mk (fun W => gets_c zz2 (gets_s (A2.out zz2) TX.out.1 (.inr ⟨rfl, hx.1, hx.2⟩) (by rw [hl2]; exact b2)) W)
  rw [ww, hl1] at G1
  rw [hl2] at G2
  obtain ⟨y, hy, y0, y1⟩ := and_20 x
  obtain ⟨b, hb, hb1⟩ := and_1 more
  have Y1 := Aside0.mk y1
  have SU := Aside0.mk (U9 y y0 (by omega))
  have hmod : y % 18446744073709551616 = y := by omega
  have C3 := Aside0.mk (fun W => hmod ▸ put_c y W)
  have PU := Aside0.mk (Pd.of_u SU.out.1)
  obtain ⟨mu, hmu⟩ : ∃ m, (U 9 y).length = m + 1 := ⟨(U 9 y).length - 1, by have := PU.out.pos; omega⟩
  have hmu2 : mu ≤ 2 := by have := len_u20 SU.out.1 y1; omega
  have zu : (strOfNums (U 9 y)).size = mu + 1 := by rw [nums_len, hmu]
  have ZU := Aside0.mk zu
  have LU := Aside0.mk hmu
  obtain ⟨K, hK⟩ : ∃ K, mu + 1 + 1 + b = K := ⟨_, rfl⟩
  have KK := Aside0.mk hK
  have K5 := Aside0.mk (show K ≤ 5 by omega)
  have B1 := Aside0.mk hb1
  have M2 := Aside0.mk hmu2
  have hm1 : pre.size + l1 ≤ maxLen := by unfold maxLen; omega
  have hm2 : pre.size + l1 + 1 ≤ maxLen := by unfold maxLen; omega
  have hm3 : pre.size + l2 ≤ maxLen := by unfold maxLen; omega
  have hm4 : pre.size + l2 + 1 ≤ maxLen := by unfold maxLen; omega
  have hbI : (b : Int) ≤ 1 := by omega
  have hb0 : (0 : Int) ≤ (b : Int) := by omega
  clear y0 y1 hK hmod hmu zz1 zz2 ww hl1 hl2 A1 A2 hx SX TX LS LT hq1 hb1
  go_enter Try.func4, Try.ntmps4
  go_wp2_with (first
    | (go_at_call 18; refine (awake_c _).mono ?_; rintro e w1 ⟨rfl, hb⟩; have HB1 := Aside0.mk hb; clear hb)
    | (go_at_call 13; (with_reducible refine (C1.out _).mono ?_); rintro e w2 ⟨rfl, hb⟩; have HB2 := Aside0.mk (below_step HB1.out hb); clear hb HB1 C1)
    | (go_at_call 15; (with_reducible refine (C2.out _).mono ?_); rintro e w3 ⟨rfl, hb⟩; have HB3 := Aside0.mk (below_step HB2.out hb); clear hb HB2 C2)
    | (go_at_call 9; (with_reducible refine (G1.out _).mono ?_); rintro e w4 ⟨rfl, hb⟩; have HB4 := Aside0.mk (below_step HB3.out hb); clear hb HB3 G1)
    | (go_at_call 11; (with_reducible refine (G2.out _).mono ?_); rintro e w5 ⟨rfl, hb⟩; have HB5 := Aside0.mk (below_step HB4.out hb); clear hb HB4 G2)
    | (go_at_call 13; (with_reducible refine (C3.out _).mono ?_); rintro e w6 ⟨rfl, hb⟩; have HB6 := Aside0.mk (below_step HB5.out hb); clear hb HB5 C3)
    | ((with_reducible refine gate_dst (N := 90) rfl ?_); refine bytes_event rfl rfl rfl hu9 hu31 hu5 ?hm (fun w => grownCap_le_maxLen w _ 0 5 ?hc) ?_; (case hm => have := ZU.out; have := M2.out; omega); (case hc => unfold maxLen; have := ZU.out; have := M2.out; omega); intro gu cu w7 hg hB hb; have HGU := Aside0.mk (Nat.le_trans HB6.out.size hg); have BU := Aside0.mk ((numsOf_str _ (mem_range PU.out.range)) ▸ hB); have HB7 := Aside0.mk (below_step HB6.out hb); clear hg hB hb HB6; rw [ZU.out])
    | (go_at_call 17; (with_reducible refine (num_c _ _).mono ?_); rintro e w' ⟨rfl, rfl⟩))
  have hk : ((mu : Int) + 1 + 1 + (b : Int)) = (K : Int) := by have := KK.out; omega
  rw [hk]
  clear hk
  go_loopg [15] (K - (mu + 1)) (fun n v15 wr => RelB w y K n v15 wr)
  case atStart => exact ⟨mu, gu, cu, U 9 y, by have := KK.out; omega, rfl, LU.out, BU.out, PU.out, HGU.out, HB7.out⟩
  case round =>
    obtain ⟨m, g, c, ds, hi, rfl, hds, hB, hP, hg0, hb⟩ := hrel
    have I3 := Aside0.mk hi
    have HD := Aside0.mk hds
    have HP := Aside0.mk hP
    have BG := Aside0.mk hB
    have G0 := Aside0.mk hg0
    have HB := Aside0.mk hb
    clear hi hds hP hB hg0 hb BU HB7 HGU
    have hm5 : m ≤ 4 := by have := I3.out; have := K5.out; omega
    have hK5 : (K : Int) ≤ 5 := by have := K5.out; omega
    by_cases h1 : m + 1 < K
    · have h2' : (m : Int) + 1 < (K : Int) := by omega
      have d2 : decide ((m : Int) + 1 < (K : Int)) = true := decide_eq_true h2'
      have d3 : decide (m + 1 < K) = true := by simpa using h1
      have H1 := Aside0.mk h1
      have lr := HP.out.range m
      have ll : nth ds m < 128 := by have := HP.out.last; rw [HD.out, Nat.add_sub_cancel] at this; exact this
      have yc : wr.cell? ⟨g, m, none⟩ = some (.int .u8 (nth ds m)) := BG.out.cell m (by rw [HD.out]; omega)
      have yo : Go.bits .or .u8 (nth ds m) 128 = nth ds m + 128 := or_last lr.1 (by omega)
      clear h1 ll lr
      go_wp2_with (first
        | ((with_reducible refine gate_store (p := 112) rfl ?_); refine storeByte_event (g := g) (j := m) (x := nth ds m + 128) rfl rfl rfl rfl rfl (by kernel_rfl) BG.out (by rw [HD.out]; omega) ?_; intro w6 hB hb ho; have B6 := Aside0.mk hB; have HB6 := Aside0.mk (hb _ _ G0.out HB.out); clear hB hb ho yc)
        | ((with_reducible refine gate_dst (N := 114) rfl ?_); refine lit_event ?hg (N := 114) ?hd (cs := #[.int .u8 0]) (t := 5) (n := 1) ?hr ?_; (case hd => rfl); (case hg => rfl); (case hr => first | (go_simp; done) | (go_simp; rfl)); intro gl hggl w7 hA hb; have y0 : w7.cell? ⟨gl, 0, none⟩ = some (.int .u8 0) := blk_cell hA 0; have B7 := Aside0.mk (B6.out.below hb); have HB7 := Aside0.mk (below_step HB6.out hb); clear hA hb hggl B6 HB6)
        | ((with_reducible refine gate_dst (N := 115) rfl ?_); refine appendByte_event (t := 31) (e := 5) (g := g) (c := c) (n := m + 1) (gl := gl) (ns := ds.set m (nth ds m + 128)) (x := 0) (s := .tmp 113) (y := .tmp 114) rfl rfl hu31 (by kernel_rfl) rfl ?hn rfl B7.out y0 ?hx (by omega) ?_; (case hn => rw [List.length_set]; exact HD.out); (case hx => rw [List.length_set, HD.out]; omega); intro g' c' w8 hB hb ho hgg; have B8 := Aside0.mk ((pad_eq HD.out) ▸ hB); have HB8 := Aside0.mk (hb _ _ G0.out HB7.out.size HB7.out); have GG := Aside0.mk (show w.heap.size ≤ g' from hgg.elim (fun e => e ▸ G0.out) (fun h => Nat.le_trans HB7.out.size h)); clear hB hb ho hgg B7 HB7 y0))
      go_roundg (K - (m + 1 + 1))
      case measure => have := I3.out; have := H1.out; omega
      case rel => exact ⟨m + 1, g', c', pad ds, by have := H1.out; omega, rfl, by rw [pad_len, HD.out], B8.out, HP.out.pad (by decide) (by decide), GG.out, HB8.out⟩
    · obtain rfl : K = m + 1 := by have := I3.out; omega
      have d2 : decide ((m : Int) + 1 < (m : Int) + 1) = false := decide_eq_false (by omega)
      have hcap : m ≤ c := by have := BG.out.len; rw [HD.out] at this; omega
      have hcap2 := BG.out.cap
      unfold maxLen at hcap2
      have hm4 : m < 5 := by omega
      have hlt : (ds.take m).length = m := by rw [List.length_take, HD.out]; omega
      have HT := Aside0.mk hlt
      have hnt : ∀ i, i < m → nth (ds.take m) i = nth ds i := fun i hi => by simp [nth, List.getD_eq_getElem?_getD, List.getElem?_take, hi]
      have PA := Aside0.mk (get_pd (at_str ds HP.out.range (by rw [HD.out]; omega)) HP.out (by have := Y1.out; omega) (by rw [HD.out]; omega))
      have PB := Aside0.mk (get_cut (at_str (ds.take m) (fun i => by
        rcases Nat.lt_or_ge i m with h | h
        · rw [hnt i h]; exact HP.out.range i
        · rw [nth_out _ _ (by omega)]; omega) (by rw [hlt]; omega)) (nums_len _) (fun i hi => by rw [hlt] at hi; rw [hnt i hi]; exact HP.out.more i (by rw [HD.out]; omega)) (by rw [hlt]; omega))
      have e1 : (0 : Int) + (ds.length : Int) = (m : Int) + 1 := by rw [HD.out]; omega
      rw [e1] at PA
      have G1 := Aside0.mk (fun W => get_c (by rw [nums_len, HD.out]; omega) PA.out W)
      have G2 := Aside0.mk (fun W => get_c (by rw [nums_len, hlt]; omega) PB.out W)
      have BT := Aside0.mk (BG.out.take m)
      clear PA PB e1 hnt hlt
      go_wp2_with (first
        | ((with_reducible refine gate_dst (N := 118) rfl ?_); refine string_event (g := g) (c := c) (n := (m + 1)) (ns := ds) rfl rfl rfl HD.out hu31 hu5 hu9 (fun j hj => BG.out.cell j hj) ?_; skip)
        | (go_at_call 9; (with_reducible refine (G1.out _).mono ?_); rintro e w9 ⟨rfl, hb⟩; have HB9 := Aside0.mk (below_step HB.out hb); have BT9 := Aside0.mk (BT.out.below hb); clear hb)
        | ((with_reducible refine gate_dst (N := 128) rfl ?_); refine string_event (g := g) (c := c) (n := m) (ns := (ds.take m)) rfl rfl rfl HT.out hu31 hu5 hu9 (fun j hj => BT9.out.cell j hj) ?_; skip)
        | (go_at_call 9; (with_reducible refine (G2.out _).mono ?_); rintro e w10 ⟨rfl, hb⟩; have HB10 := Aside0.mk (below_step HB9.out hb); clear hb)
        | (go_at_call 17; (with_reducible refine (num_c _ _).mono ?_); rintro e w' ⟨rfl, rfl⟩))
      go_ret
      exact ⟨rfl, HB10.out⟩
end Go.Proofs.Ytflejniglhjbfaa.LebWalk
