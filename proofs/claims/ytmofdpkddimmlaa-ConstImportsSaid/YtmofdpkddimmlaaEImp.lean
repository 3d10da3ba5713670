/-
  The reference's imported.
-/
import Derived.Test.YtmofdpkddimmlaaEFty3
namespace Go.Proofs.Ytmofdpkddimmlaa.EFty
open Go Go.RowKit Go.Proofs.Ytmofdpkddimmlaa.F Go.Proofs.YtmofdpkddimmlaaW.Hand Go.Proofs.YtmofdpkddimmlaaW.PrintWords Go.Proofs.YtmofdpkddimmlaaW.PrintLast Go.Proofs.YtmofdpkddimmlaaW.PrintMore
set_option linter.unusedVariables false
set_option linter.unusedSimpArgs false
def cells90 (x : S90) : Array Value := #[.string x.f0, .string x.f1, .int .i64 x.f2, .int .i64 x.f3, .bool x.f4, .int .i64 x.f5.f0, .int .i64 x.f5.f1]
/-- The k-th of a kind among the first i. -/
def outAt (imps : List S90) (K k : Int) (i : Nat) : S90 := if 0 ≤ k ∧ k < (cnt imps K i : Int) then nth imps K k else z90
theorem cnt_yes {imps : List S90} {K : Int} {i : Nat} (hi : i < imps.length) (h : (rd_T90 imps (i : Int)).f2 = K) : cnt imps K (i + 1) = cnt imps K i + 1 := by
  unfold cnt
  rw [show upTo imps K (i + 1) = upTo imps K i ++ [⟨i, hi, h⟩] from dif_pos ⟨hi, h⟩, List.length_append]
  rfl
theorem cnt_no {imps : List S90} {K : Int} {i : Nat} (h : ¬ (rd_T90 imps (i : Int)).f2 = K) : cnt imps K (i + 1) = cnt imps K i := by
  unfold cnt
  rw [show upTo imps K (i + 1) = upTo imps K i from dif_neg (fun h2 => h h2.2)]
theorem out_hit {imps : List S90} {K k : Int} {i : Nat} (hi : i < imps.length) (h : (rd_T90 imps (i : Int)).f2 = K) (hk : (cnt imps K i : Int) = k) : outAt imps K k (i + 1) = rd_T90 imps (i : Int) := by
  unfold outAt
  rw [cnt_yes hi h, if_pos (by omega)]
  exact (nth_at hi h hk).2
theorem out_past {imps : List S90} {K k : Int} {i : Nat} (hi : i < imps.length) (h : (rd_T90 imps (i : Int)).f2 = K) (hk : ¬ (cnt imps K i : Int) = k) : outAt imps K k (i + 1) = outAt imps K k i := by
  unfold outAt
  rw [cnt_yes hi h]
  by_cases hc : 0 ≤ k ∧ k < (cnt imps K i : Int)
  · rw [if_pos hc, if_pos (by omega)]
  · rw [if_neg hc, if_neg (by omega)]
theorem out_no {imps : List S90} {K k : Int} {i : Nat} (h : ¬ (rd_T90 imps (i : Int)).f2 = K) : outAt imps K k (i + 1) = outAt imps K k i := by
  unfold outAt
  rw [cnt_no h]
def RelI (w : World) (imps : List S90) (K k : Int) (g3 g6 g9 : Nat) (md : Array Value) (n : Nat) (v8 v10 : Value) (wr : World) : Prop := ∃ i : Nat, i + n = imps.length ∧ .int .i64 (cnt imps K i : Int) = v8 ∧ v10 = .int .i64 i ∧ wr.heap[g3]? = some (.cells md 69 (0, 0)) ∧ wr.heap[g6]? = some (.cells #[.string ⟨#[]⟩, .string ⟨#[]⟩, .int .i64 0, .int .i64 0, .bool false, .int .i64 0, .int .i64 0] 90 (0, 0)) ∧ wr.heap[g9]? = some (.cells (cells90 (outAt imps K k i)) 90 (0, 0)) ∧ Below w.heap.size w wr
set_option maxHeartbeats 8000000 in
set_option maxRecDepth 100000 in
theorem imported_calls (w : World) (imps : List S90) (K k : Int) (A0 A A2 A3 A4 A5 A6 A8 A9 A10 : Option Addr) (n0 n2 n3 n4 n5 n6 n8 n9 n10 c0 c c2 c3 c4 c5 c6 c8 c9 c10 : Nat) (st : Int) (hlen : imps.length ≤ 140737488351232) (hI : k90.C w A imps.length imps) :
    Calls Try.prog 53 #[.agg #[.slice A0 n0 c0, .slice A imps.length c, .slice A2 n2 c2, .slice A3 n3 c3, .slice A4 n4 c4, .slice A5 n5 c5, .slice A6 n6 c6, .int .i64 st, .slice A8 n8 c8, .slice A9 n9 c9, .slice A10 n10 c10], .int .i64 K, .int .i64 k] w fun e w' => e = .returned (.tuple #[.agg (cells90 (outAt imps K k imps.length)), .int .i64 (cnt imps K imps.length : Int)]) ∧ Below w.heap.size w w' := by
  have HI := Aside0.mk hI
  have HL := Aside0.mk hlen
  clear hI
  go_enter Try.func53, Try.ntmps53
  go_wp2_with (first
    | ((with_reducible refine gate_dst (N := 3) rfl ?_); refine box_event ?hg (N := 3) ?hd (cs := #[.slice A0 n0 c0, .slice A imps.length c, .slice A2 n2 c2, .slice A3 n3 c3, .slice A4 n4 c4, .slice A5 n5 c5, .slice A6 n6 c6, .int .i64 st, .slice A8 n8 c8, .slice A9 n9 c9, .slice A10 n10 c10]) (t := 69) ?hr ?_; (case hd => rfl); (case hg => rfl); (case hr => first | (go_simp; done) | (go_simp; rfl)); intro g3 hgg3 w1 hA hb; have H3 := Aside0.mk hA; have HB1 := Aside0.mk hb; clear hgg3 hA hb)
    | ((with_reducible refine gate_dst (N := 6) rfl ?_); refine box_event ?hg (N := 6) ?hd (cs := #[.string ⟨#[]⟩, .string ⟨#[]⟩, .int .i64 0, .int .i64 0, .bool false, .int .i64 0, .int .i64 0]) (t := 90) ?hr ?_; (case hd => rfl); (case hg => rfl); (case hr => first | (go_simp; done) | (go_simp; rfl)); intro g6 hgg6 w2 hA hb; have H6 := Aside0.mk hA; have H3b := Aside0.mk (blk_below H3.out hb); have HB2 := Aside0.mk (below_step HB1.out hb); have L6 := Aside0.mk (show w.heap.size ≤ g6 by rw [hgg6]; exact HB1.out.size); have N36 := Aside0.mk (show g3 ≠ g6 by rw [hgg6]; exact Nat.ne_of_lt (blk_lt H3.out)); clear hgg6 hA hb H3 HB1)
    | ((with_reducible refine gate_dst (N := 9) rfl ?_); refine box_event ?hg (N := 9) ?hd (cs := #[.string ⟨#[]⟩, .string ⟨#[]⟩, .int .i64 0, .int .i64 0, .bool false, .int .i64 0, .int .i64 0]) (t := 90) ?hr ?_; (case hd => rfl); (case hg => rfl); (case hr => first | (go_simp; done) | (go_simp; rfl)); intro g9 hgg9 w3 hA hb; have H9 := Aside0.mk hA; have H3c := Aside0.mk (blk_below H3b.out hb); have H6c := Aside0.mk (blk_below H6.out hb); have HB3 := Aside0.mk (below_step HB2.out hb); have L9 := Aside0.mk (show w.heap.size ≤ g9 by rw [hgg9]; exact HB2.out.size); have N39 := Aside0.mk (show g3 ≠ g9 by rw [hgg9]; exact Nat.ne_of_lt (blk_lt H3b.out)); have N69 := Aside0.mk (show g6 ≠ g9 by rw [hgg9]; exact Nat.ne_of_lt (blk_lt H6.out)); clear hgg9 hA hb H3b H6 HB2))
  go_loopg [8, 10] imps.length (fun n v8 v10 wr => RelI w imps K k g3 g6 g9 #[.slice A0 n0 c0, .slice A imps.length c, .slice A2 n2 c2, .slice A3 n3 c3, .slice A4 n4 c4, .slice A5 n5 c5, .slice A6 n6 c6, .int .i64 st, .slice A8 n8 c8, .slice A9 n9 c9, .slice A10 n10 c10] n v8 v10 wr)
  case atStart =>
    have e0 : outAt imps K k 0 = z90 := by unfold outAt; rw [if_neg]; intro h; have h2 : k < ((0 : Nat) : Int) := h.2; omega
    first | exact ⟨0, by omega, rfl, rfl, H3c.out, H6c.out, by rw [e0]; exact H9.out, HB3.out⟩ | exact ⟨0, by omega, rfl, rfl, blk_below H3c.out (below_drew (Below.refl _ _)), blk_below H6c.out (below_drew (Below.refl _ _)), by rw [e0]; exact blk_below H9.out (below_drew (Below.refl _ _)), below_drew HB3.out⟩
  case round =>
    clear H3c H6c H9 HB3
    obtain ⟨i, hi, rfl, rfl, h3, h6, h9, hb⟩ := hrel
    have I1 := Aside0.mk hi
    have M3 := Aside0.mk h3
    have M6 := Aside0.mk h6
    have M9 := Aside0.mk h9
    have HY := Aside0.mk hb
    clear hi h3 h6 h9 hb
    have y1 : wr.cell? ⟨g3, 1, none⟩ = some (.slice A imps.length c) := blk_cell M3.out 1
    by_cases hlt : i < imps.length
    · have dl : decide (i < imps.length) = true := decide_eq_true hlt
      have dl2 : decide ((i : Int) < (imps.length : Int)) = true := decide_eq_true (by omega)
      have HLT := Aside0.mk hlt
      have hi0 : (0 : Int) ≤ (i : Int) := by omega
      have w1 : wrap64 ((i : Int) + 1) = (i : Int) + 1 := by unfold wrap64; omega
      have wc : wrap64 ((cnt imps K i : Int) + 1) = (cnt imps K i : Int) + 1 := by have := cnt_le imps K i; unfold wrap64; omega
      obtain ⟨ad, eA, a0, a1, a2, a3, a4, a5, a6⟩ := at_T90 (Kd.C_below HI.out HY.out) (i : Int) (by omega) (by omega)
      subst eA
      simp only [Int.toNat_natCast] at a0 a1 a2 a3 a4 a5 a6
      by_cases hx : (rd_T90 imps (i : Int)).f2 = K
      · have cy := cnt_yes hlt hx
        have CY := Aside0.mk cy
        by_cases hm : (cnt imps K i : Int) = k
        · have OH := Aside0.mk (out_hit hlt hx hm)
          have HM := Aside0.mk hm
          generalize rd_T90 imps (i : Int) = x at *
          have dx : (x.f2 == K) = true := beq_iff_eq.mpr hx
          have dm : ((cnt imps K i : Int) == k) = true := beq_iff_eq.mpr hm
          clear hx hm cy
          go_wp2_with (first
            | ((with_reducible refine gate_store (p := 9) rfl ?_); refine storeRow_event (g := g9) rfl rfl rfl (cs := #[.string x.f0, .string x.f1, .int .i64 x.f2, .int .i64 x.f3, .bool x.f4, .int .i64 x.f5.f0, .int .i64 x.f5.f1]) rfl rfl M9.out (by kernel_rfl) rfl (by simp [Value.oneCell']) ?_; intro w5 hA hb ho hs; have HB5 := Aside0.mk (hb _ _ L9.out HY.out); have Q9 := Aside0.mk hA; have Q3 := Aside0.mk ((ho g3 N39.out).trans M3.out); have Q6 := Aside0.mk ((ho g6 N69.out).trans M6.out); clear hA hb ho hs))
          go_roundg (imps.length - (i + 1))
          case measure => have := I1.out; have := HLT.out; omega
          case rel => exact ⟨i + 1, by have := HLT.out; omega, by rw [CY.out]; go_num, by go_num, Q3.out, Q6.out, by rw [OH.out]; exact Q9.out, HB5.out⟩
        · have OH := Aside0.mk (out_past hlt hx hm)
          generalize rd_T90 imps (i : Int) = x at *
          have dx : (x.f2 == K) = true := beq_iff_eq.mpr hx
          have dm : ((cnt imps K i : Int) == k) = false := beq_eq_false_iff_ne.mpr hm
          clear cy
          go_wp2
          go_roundg (imps.length - (i + 1))
          case measure => have := I1.out; have := HLT.out; omega
          case rel => exact ⟨i + 1, by have := HLT.out; omega, by rw [CY.out]; go_num, by go_num, M3.out, M6.out, by rw [OH.out]; exact M9.out, HY.out⟩
      · have CY := Aside0.mk (cnt_no hx)
        have OH := Aside0.mk (out_no (k := k) hx)
        generalize rd_T90 imps (i : Int) = x at *
        have dx : (x.f2 == K) = false := beq_eq_false_iff_ne.mpr hx
        go_wp2
        go_roundg (imps.length - (i + 1))
        case measure => have := I1.out; have := HLT.out; omega
        case rel => exact ⟨i + 1, by have := HLT.out; omega, by rw [CY.out], by go_num, M3.out, M6.out, by rw [OH.out]; exact M9.out, HY.out⟩
    · have dl : decide (i < imps.length) = false := decide_eq_false hlt
      have dl2 : decide ((i : Int) < (imps.length : Int)) = false := decide_eq_false (by omega)
      have hie : i = imps.length := by have := I1.out; omega
      subst hie
      obtain ⟨O, hO⟩ : ∃ O, outAt imps K k imps.length = O := ⟨_, rfl⟩
      rw [hO] at M9
      have u0 : wr.cell? ⟨g9, 0, none⟩ = some (.string O.f0) := blk_cell M9.out 0
      have u1 : wr.cell? ⟨g9, 1, none⟩ = some (.string O.f1) := blk_cell M9.out 1
      have u2 : wr.cell? ⟨g9, 2, none⟩ = some (.int .i64 O.f2) := blk_cell M9.out 2
      have u3 : wr.cell? ⟨g9, 3, none⟩ = some (.int .i64 O.f3) := blk_cell M9.out 3
      have u4 : wr.cell? ⟨g9, 4, none⟩ = some (.bool O.f4) := blk_cell M9.out 4
      have u5 : wr.cell? ⟨g9, 5, none⟩ = some (.int .i64 O.f5.f0) := blk_cell M9.out 5
      have u6 : wr.cell? ⟨g9, 6, none⟩ = some (.int .i64 O.f5.f1) := blk_cell M9.out 6
      go_wp2_with (first
        | ((with_reducible refine gate_store (p := 6) rfl ?_); refine storeRow_event (g := g6) rfl rfl rfl (cs := #[.string O.f0, .string O.f1, .int .i64 O.f2, .int .i64 O.f3, .bool O.f4, .int .i64 O.f5.f0, .int .i64 O.f5.f1]) rfl rfl M6.out (by kernel_rfl) rfl (by simp [Value.oneCell']) ?_; intro w5 hA hb ho hs; have HB5 := Aside0.mk (hb _ _ L6.out HY.out); have q0 : w5.cell? ⟨g6, 0, none⟩ = some (.string O.f0) := blk_cell hA 0; have q1 : w5.cell? ⟨g6, 1, none⟩ = some (.string O.f1) := blk_cell hA 1; have q2 : w5.cell? ⟨g6, 2, none⟩ = some (.int .i64 O.f2) := blk_cell hA 2; have q3 : w5.cell? ⟨g6, 3, none⟩ = some (.int .i64 O.f3) := blk_cell hA 3; have q4 : w5.cell? ⟨g6, 4, none⟩ = some (.bool O.f4) := blk_cell hA 4; have q5 : w5.cell? ⟨g6, 5, none⟩ = some (.int .i64 O.f5.f0) := blk_cell hA 5; have q6 : w5.cell? ⟨g6, 6, none⟩ = some (.int .i64 O.f5.f1) := blk_cell hA 6; clear hA hb ho hs))
      exact bodyPost_ret (v := .tuple #[.agg (cells90 O), .int .i64 (cnt imps K imps.length : Int)]) (by simp [results, Try.f53, go_sem, q0, q1, q2, q3, q4, q5, q6, cells90]) rfl ⟨by rw [hO], HB5.out⟩
end Go.Proofs.Ytmofdpkddimmlaa.EFty
