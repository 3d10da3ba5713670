/-
  peloruslaw12.LebLong answers true: longer forms are read alike.
-/
import Derived.Test.YtflejniglhjbfaaLebWalk
namespace Go.Proofs.Ytflejniglhjbfaa.LebWalk
open Go Go.RowKit Go.Proofs.YtflejniglhjbfaaW.Hand Go.Proofs.YtflejniglhjbfaaW.Byt Go.Proofs.YtflejniglhjbfaaW.PrintWords Go.Proofs.YtflejniglhjbfaaW.PrintLast Go.Proofs.YtflejniglhjbfaaW.PrintMore Go.Proofs.Ytflejniglhjbfaa.LebMath Go.Proofs.Ytflejniglhjbfaa.LebFns Go.Proofs.Ytflejniglhjbfaa.LebGets Go.Proofs.Ytflejniglhjbfaa.LebGetS Go.Proofs.Ytflejniglhjbfaa.LebBacks Go.Proofs.Ytflejniglhjbfaa.LebPads Go.Proofs.Ytflejniglhjbfaa.F
set_option linter.unusedVariables false
set_option linter.unusedSimpArgs false
theorem and_31 (n : Int) : ∃ y, Go.bits .and .i64 n 2147483647 = y ∧ 0 ≤ y ∧ y < 2147483648 := by
  refine ⟨_, rfl, ?_⟩
  rw [and_mask n 31 (by decide) 2147483647 (by decide)]
  have : ((2 ^ 31 : Nat) : Int) = 2147483648 := by decide
  rw [this]
  omega
theorem and_3 (n : Int) : ∃ y : Nat, Go.bits .and .i64 n 3 = (y : Int) ∧ y ≤ 3 := by
  refine ⟨(n % 4).toNat, ?_, by omega⟩
  rw [and_mask n 2 (by decide) 3 (by decide)]
  have : ((2 ^ 2 : Nat) : Int) = 4 := by decide
  rw [this]
  omega
def RelU (w : World) (y : Int) (K : Nat) (gv cv mv : Nat) (dv : List Int) (n : Nat) (v9 v11 : Value) (wr : World) : Prop :=
  ∃ (i m g c : Nat) (ds : List Int), i + n = K ∧ v11 = .int .i64 i ∧ v9 = .slice (some ⟨g, 0, none⟩) (m + 1) c ∧ ds.length = m + 1 ∧ BytAt wr 5 g c ds ∧ Pd 128 ds y ∧ m + 1 ≤ 5 ∧ w.heap.size ≤ g ∧ g ≠ gv ∧ BytAt wr 5 gv cv dv ∧ Below w.heap.size w wr
def RelV (w : World) (y : Int) (K : Nat) (gv cv mv : Nat) (dv : List Int) (n : Nat) (v9 v11 : Value) (wr : World) : Prop :=
  ∃ (i m g c : Nat) (ds : List Int), i + n = K ∧ v11 = .int .i64 i ∧ v9 = .slice (some ⟨g, 0, none⟩) (m + 1) c ∧ ds.length = m + 1 ∧ BytAt wr 5 g c ds ∧ Pd 64 ds y ∧ m + 1 ≤ 5 ∧ w.heap.size ≤ g ∧ g ≠ gv ∧ BytAt wr 5 gv cv dv ∧ Below w.heap.size w wr
set_option maxHeartbeats 8000000 in
theorem long_calls {w : World} {x pd : Int} : Calls Try.prog 8 #[.int .i64 x, .int .i64 pd] w fun e w' => e = .returned (.bool true) ∧ Below w.heap.size w w' := by
  have hu5 := Try.underlying5
  have hu9 := Try.underlying9
  have hu31 := Try.underlying31
  obtain ⟨y, hy, y0, y1⟩ := and_31 x
  obtain ⟨q, hq, q3⟩ := and_3 pd
  have hq1 : wrap64 (1 + (q : Int)) = ((1 + q : Nat) : Int) := by unfold wrap64; omega
  obtain ⟨K, hK⟩ : ∃ K, 1 + q = K := ⟨_, rfl⟩
  rw [hK] at hq1
  have K4 := Aside0.mk (show K ≤ 4 by omega)
  have Y0 := Aside0.mk y0
  have Y1 := Aside0.mk y1
  have SU := Aside0.mk (U9 y y0 (by omega))
  have SS := Aside0.mk (S9 y (by omega) (by omega))
  have hmod : y % 18446744073709551616 = y := by omega
  have C1 := Aside0.mk (fun W => hmod ▸ put_c y W)
  have C2 := Aside0.mk (fun W => puts_c y (by omega) (by omega) W)
  have PU := Aside0.mk (Pd.of_u SU.out.1)
  have PS := Aside0.mk (Pd.of_s SS.out.1 y0)
  obtain ⟨mu, hmu⟩ : ∃ m, (U 9 y).length = m + 1 := ⟨(U 9 y).length - 1, by have := PU.out.pos; omega⟩
  obtain ⟨mv, hmv⟩ : ∃ m, (S 9 y).length = m + 1 := ⟨(S 9 y).length - 1, by have := PS.out.pos; omega⟩
  have MU := Aside0.mk (show mu + 1 ≤ 5 by have := len_u32 SU.out.1 (by omega); omega)
  have MV := Aside0.mk (show mv + 1 ≤ 5 by have := len_s32 SS.out.1 (by omega); omega)
  have zu : (strOfNums (U 9 y)).size = mu + 1 := by rw [nums_len, hmu]
  have zv : (strOfNums (S 9 y)).size = mv + 1 := by rw [nums_len, hmv]
  have ZU := Aside0.mk zu
  have ZV := Aside0.mk zv
  have LU := Aside0.mk hmu
  have LV := Aside0.mk hmv
  clear y0 y1 q3 hK hmod hmu hmv
  go_enter Try.func8, Try.ntmps8
  go_wp2_with (first
    | (go_at_call 18; refine (awake_c _).mono ?_; rintro e w1 ⟨rfl, hb⟩; have HB1 := Aside0.mk hb; clear hb)
    | (go_at_call 13; (with_reducible refine (C1.out _).mono ?_); rintro e w2 ⟨rfl, hb⟩; have HB2 := Aside0.mk (below_step HB1.out hb); clear hb HB1)
    | (go_at_call 15; (with_reducible refine (C2.out _).mono ?_); rintro e w3 ⟨rfl, hb⟩; have HB3 := Aside0.mk (below_step HB2.out hb); clear hb HB2)
    | ((with_reducible refine gate_dst (N := 31) rfl ?_); refine bytes_event rfl rfl rfl hu9 hu31 hu5 ?hm (fun w => grownCap_le_maxLen w _ 0 5 ?hc) ?_; (case hm => have := ZU.out; have := MU.out; omega); (case hc => unfold maxLen; have := ZU.out; have := MU.out; omega); intro gu cu w4 hg hB hb; have HGU := Aside0.mk (Nat.le_trans HB3.out.size hg); have BU := Aside0.mk ((numsOf_str _ (mem_range PU.out.range)) ▸ hB); have HB4 := Aside0.mk (below_step HB3.out hb); clear hg hB hb HB3; rw [ZU.out])
    | ((with_reducible refine gate_dst (N := 33) rfl ?_); refine bytes_event rfl rfl rfl hu9 hu31 hu5 ?hm (fun w => grownCap_le_maxLen w _ 0 5 ?hc) ?_; (case hm => have := ZV.out; have := MV.out; omega); (case hc => unfold maxLen; have := ZV.out; have := MV.out; omega); intro gv cv w5 hg hB hb; have HGV := Aside0.mk (Nat.le_trans HB4.out.size hg); have hne := Aside0.mk (show gu ≠ gv from fun e => by have := BU.out.lt; omega); have BV := Aside0.mk ((numsOf_str _ (mem_range PS.out.range)) ▸ hB); have BU5 := Aside0.mk (BU.out.below hb); have HB5 := Aside0.mk (below_step HB4.out hb); clear hg hB hb HB4 BU; rw [ZV.out]))

  go_loopg [9, 11] K (fun n v9 v11 wr => RelU w y K gv cv 0 (S 9 y) n v9 v11 wr)
  case atStart => exact ⟨0, mu, gu, cu, U 9 y, by omega, rfl, rfl, LU.out, BU5.out, PU.out, MU.out, HGU.out, hne.out, BV.out, HB5.out⟩
  case round =>
    obtain ⟨iz, mz, gz, cz, dz, hi, rfl, rfl, hds, hB, hP, hm5, hg0, hgv, hBV, hb⟩ := hrel
    have I3z := Aside0.mk hi
    have HDz := Aside0.mk hds
    have HPz := Aside0.mk hP
    have BGz := Aside0.mk hB
    have G0z := Aside0.mk hg0
    have GVz := Aside0.mk hgv
    have BOz := Aside0.mk hBV
    have HBz := Aside0.mk hb
    have M5z := Aside0.mk hm5
    clear hi hds hP hB hg0 hgv hBV hb BU5 HB5
    by_cases hc : iz < K ∧ mz + 1 < 5
    · obtain ⟨h1, h2⟩ := hc
      have d1 : decide (iz < K) = true := by simpa using h1
      have hz4 : mz ≤ 4 := by omega
      have h2' : (mz : Int) + 1 < 5 := by omega
      have d2 : decide ((mz : Int) + 1 < 5) = true := decide_eq_true h2'
      have hi4 : iz ≤ 4 := by have := K4.out; omega
      have H1 := Aside0.mk h1
      have lr := HPz.out.range mz
      have ll : nth dz mz < 128 := by have := HPz.out.last; rw [HDz.out, Nat.add_sub_cancel] at this; exact this
      have yc : wr.cell? ⟨gz, mz, none⟩ = some (.int .u8 (nth dz mz)) := BGz.out.cell mz (by rw [HDz.out]; omega)
      have yo : Go.bits .or .u8 (nth dz mz) 128 = nth dz mz + 128 := or_last lr.1 (by omega)
      clear h1 hm5 ll lr h2
      go_wp2_with (first
        | ((with_reducible refine gate_store (p := 55) rfl ?_); refine storeByte_event (g := gz) (j := mz) (x := nth dz mz + 128) rfl rfl rfl rfl rfl (by kernel_rfl) BGz.out (by rw [HDz.out]; omega) ?_; intro w6 hB hb ho; have B6 := Aside0.mk hB; have HB6 := Aside0.mk (hb _ _ G0z.out HBz.out); have BO6 := Aside0.mk (BOz.out.keep (ho gv GVz.out.symm BOz.out.lt)); clear hB hb ho yc)
        | ((with_reducible refine gate_dst (N := 57) rfl ?_); refine lit_event ?hg (N := 57) ?hd (cs := #[.int .u8 0]) (t := 5) (n := 1) ?hr ?_; (case hd => rfl); (case hg => rfl); (case hr => first | (go_simp; done) | (go_simp; rfl)); intro gl hggl w7 hA hb; have y0 : w7.cell? ⟨gl, 0, none⟩ = some (.int .u8 0) := blk_cell hA 0; have B7 := Aside0.mk (B6.out.below hb); have BO7 := Aside0.mk (BO6.out.below hb); have HB7 := Aside0.mk (below_step HB6.out hb); clear hA hb hggl B6 BO6 HB6)
        | ((with_reducible refine gate_dst (N := 58) rfl ?_); refine appendByte_event (t := 31) (e := 5) (g := gz) (c := cz) (n := mz + 1) (gl := gl) (ns := dz.set mz (nth dz mz + 128)) (x := 0) (s := .tmp 56) (y := .tmp 57) rfl rfl hu31 (by kernel_rfl) rfl ?hn rfl B7.out y0 ?hx (by omega) ?_; (case hn => rw [List.length_set]; exact HDz.out); (case hx => rw [List.length_set, HDz.out]; omega); intro g' c' w8 hB hb ho hgg; have B8 := Aside0.mk ((pad_eq HDz.out) ▸ hB); have HB8 := Aside0.mk (hb _ _ G0z.out HB7.out.size HB7.out); have BO8 := Aside0.mk (BO7.out.keep (ho gv GVz.out.symm BO7.out.lt)); have GG := Aside0.mk (show w.heap.size ≤ g' ∧ g' ≠ gv from hgg.elim (fun e => e ▸ ⟨G0z.out, GVz.out⟩) (fun h => ⟨Nat.le_trans HB7.out.size h, fun e => by have := BO7.out.lt; omega⟩)); clear hB hb ho hgg B7 BO7 HB7 y0))
      go_roundg (K - (iz + 1))
      case measure => have := I3z.out; have := H1.out; omega
      case rel => exact ⟨iz + 1, mz + 1, g', c', pad dz, by have := H1.out; omega, by go_num, by first | rfl | (congr 1), by rw [pad_len, HDz.out], B8.out, HPz.out.pad (by decide) (by decide), by omega, GG.out.1, GG.out.2, BO8.out, HB8.out⟩
    · have dd : (decide (iz < K) = false) ∨ (decide (iz < K) = true ∧ decide ((mz : Int) + 1 < 5) = false) := by
        by_cases h1 : iz < K
        · exact .inr ⟨by simpa using h1, decide_eq_false (by omega)⟩
        · exact .inl (by simpa using h1)
      have hz4 : mz ≤ 4 := by omega
      clear hc hm5
      rcases dd with d1 | ⟨d1, d2⟩
      all_goals
        go_wp2
        go_loopg [10, 12] K (fun n v9 v11 wr => RelV w y K gz cz 0 dz n v9 v11 wr)
        case atStart => exact ⟨0, mv, gv, cv, S 9 y, by omega, rfl, rfl, LV.out, BOz.out, PS.out, MV.out, HGV.out, GVz.out.symm, BGz.out, HBz.out⟩
        case round =>
          obtain ⟨i, m, g, c, ds, hi, rfl, rfl, hds, hB, hP, hm5, hg0, hgv, hBV, hb⟩ := hrel
          have I3 := Aside0.mk hi
          have HD := Aside0.mk hds
          have HP := Aside0.mk hP
          have BG := Aside0.mk hB
          have G0 := Aside0.mk hg0
          have GV := Aside0.mk hgv
          have BO := Aside0.mk hBV
          have HB := Aside0.mk hb
          have M5 := Aside0.mk hm5
          clear hi hds hP hB hg0 hgv hBV hb
          by_cases hc : i < K ∧ m + 1 < 5
          · obtain ⟨h1, h2⟩ := hc
            have d1 : decide (i < K) = true := by simpa using h1
            have hm4 : m ≤ 4 := by omega
            have h2' : (m : Int) + 1 < 5 := by omega
            have d2 : decide ((m : Int) + 1 < 5) = true := decide_eq_true h2'
            have hi4 : i ≤ 4 := by have := K4.out; omega
            have H1 := Aside0.mk h1
            have lr := HP.out.range m
            have ll : nth ds m < 64 := by have := HP.out.last; rw [HD.out, Nat.add_sub_cancel] at this; exact this
            have yc : wr.cell? ⟨g, m, none⟩ = some (.int .u8 (nth ds m)) := BG.out.cell m (by rw [HD.out]; omega)
            have yo : Go.bits .or .u8 (nth ds m) 128 = nth ds m + 128 := or_last lr.1 (by omega)
            clear h1 hm5 ll lr h2
            go_wp2_with (first
              | ((with_reducible refine gate_store (p := 80) rfl ?_); refine storeByte_event (g := g) (j := m) (x := nth ds m + 128) rfl rfl rfl rfl rfl (by kernel_rfl) BG.out (by rw [HD.out]; omega) ?_; intro w6 hB hb ho; have B6 := Aside0.mk hB; have HB6 := Aside0.mk (hb _ _ G0.out HB.out); have BO6 := Aside0.mk (BO.out.keep (ho gz GV.out.symm BO.out.lt)); clear hB hb ho yc)
              | ((with_reducible refine gate_dst (N := 82) rfl ?_); refine lit_event ?hg (N := 82) ?hd (cs := #[.int .u8 0]) (t := 5) (n := 1) ?hr ?_; (case hd => rfl); (case hg => rfl); (case hr => first | (go_simp; done) | (go_simp; rfl)); intro gl hggl w7 hA hb; have y0 : w7.cell? ⟨gl, 0, none⟩ = some (.int .u8 0) := blk_cell hA 0; have B7 := Aside0.mk (B6.out.below hb); have BO7 := Aside0.mk (BO6.out.below hb); have HB7 := Aside0.mk (below_step HB6.out hb); clear hA hb hggl B6 BO6 HB6)
              | ((with_reducible refine gate_dst (N := 83) rfl ?_); refine appendByte_event (t := 31) (e := 5) (g := g) (c := c) (n := m + 1) (gl := gl) (ns := ds.set m (nth ds m + 128)) (x := 0) (s := .tmp 81) (y := .tmp 82) rfl rfl hu31 (by kernel_rfl) rfl ?hn rfl B7.out y0 ?hx (by omega) ?_; (case hn => rw [List.length_set]; exact HD.out); (case hx => rw [List.length_set, HD.out]; omega); intro g' c' w8 hB hb ho hgg; have B8 := Aside0.mk ((pad_eq HD.out) ▸ hB); have HB8 := Aside0.mk (hb _ _ G0.out HB7.out.size HB7.out); have BO8 := Aside0.mk (BO7.out.keep (ho gz GV.out.symm BO7.out.lt)); have GG := Aside0.mk (show w.heap.size ≤ g' ∧ g' ≠ gz from hgg.elim (fun e => e ▸ ⟨G0.out, GV.out⟩) (fun h => ⟨Nat.le_trans HB7.out.size h, fun e => by have := BO7.out.lt; omega⟩)); clear hB hb ho hgg B7 BO7 HB7 y0))
            go_roundg (K - (i + 1))
            case measure => have := I3.out; have := H1.out; omega
            case rel => exact ⟨i + 1, m + 1, g', c', pad ds, by have := H1.out; omega, by go_num, by first | rfl | (congr 1), by rw [pad_len, HD.out], B8.out, HP.out.pad (by decide) (by decide), by omega, GG.out.1, GG.out.2, BO8.out, HB8.out⟩
          · have dd : (decide (i < K) = false) ∨ (decide (i < K) = true ∧ decide ((m : Int) + 1 < 5) = false) := by
              by_cases h1 : i < K
              · exact .inr ⟨by simpa using h1, decide_eq_false (by omega)⟩
              · exact .inl (by simpa using h1)
            have hm4 : m ≤ 4 := by omega
            clear hc hm5
            rcases dd with d1 | ⟨d1, d2⟩
            all_goals
              have PA := Aside0.mk (get_pd (at_str dz HPz.out.range (by rw [HDz.out]; omega)) HPz.out (by have := Y1.out; omega) (by rw [HDz.out]; exact M5z.out))
              have PB := Aside0.mk (gets_pd (at_str ds HP.out.range (by rw [HD.out]; omega)) HP.out (by have := Y1.out; omega) (by rw [HD.out]; exact M5.out))
              have e1 : (0 : Int) + (dz.length : Int) = (mz : Int) + 1 := by rw [HDz.out]; omega
              have e2 : (0 : Int) + (ds.length : Int) = (m : Int) + 1 := by rw [HD.out]; omega
              rw [e1] at PA
              rw [e2] at PB
              have G1 := Aside0.mk (fun W => get_c (by rw [nums_len, HDz.out]; omega) PA.out W)
              have G2 := Aside0.mk (fun W => gets_c (by rw [nums_len, HD.out]; omega) PB.out W)
              clear PA PB e1 e2
              go_wp2_with (first
                | ((with_reducible refine gate_dst (N := 86) rfl ?_); refine string_event (g := gz) (c := cz) (n := (mz + 1)) (ns := dz) rfl rfl rfl HDz.out hu31 hu5 hu9 (fun j hj => BO.out.cell j hj) ?_; skip)
                | (go_at_call 9; (with_reducible refine (G1.out _).mono ?_); rintro e w9 ⟨rfl, hb⟩; have HB9 := Aside0.mk (below_step HB.out hb); have BG9 := Aside0.mk (BG.out.below hb); clear hb)
                | ((with_reducible refine gate_dst (N := 93) rfl ?_); refine string_event (g := g) (c := c) (n := (m + 1)) (ns := ds) rfl rfl rfl HD.out hu31 hu5 hu9 (fun j hj => BG9.out.cell j hj) ?_; skip)
                | (go_at_call 11; (with_reducible refine (G2.out _).mono ?_); rintro e w10 ⟨rfl, hb⟩; have HB10 := Aside0.mk (below_step HB9.out hb); clear hb)
                | (go_at_call 17; (with_reducible refine (num_c _ _).mono ?_); rintro e w' ⟨rfl, rfl⟩))
              go_ret
              exact ⟨rfl, HB10.out⟩
end Go.Proofs.Ytflejniglhjbfaa.LebWalk
