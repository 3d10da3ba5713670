/-
  The reference's may.
-/
import Derived.Test.YtmofdpkddimmlaaEMay0
namespace Go.Proofs.Ytmofdpkddimmlaa.EInstr
open Go Go.RowKit Go.Proofs.Ytmofdpkddimmlaa.F Go.Proofs.YtmofdpkddimmlaaW.Hand Go.Proofs.YtmofdpkddimmlaaW.PrintWords Go.Proofs.YtmofdpkddimmlaaW.PrintLast Go.Proofs.YtmofdpkddimmlaaW.PrintMore
set_option linter.unusedVariables false
set_option linter.unusedSimpArgs false

theorem ret_b {a b : Bool} (h : a = b) : Ending.returned (.bool a) = Ending.returned (.bool b) := by rw [h]
/-- The reference's may, as it is written. -/
def rmayB (x : S106) : Bool :=
  if formF x.f0 = 9 ∨ u32B x.f1 = false ∨ u32B x.f2 = false then false
  else if ((formF x.f0 ≠ 3 ∧ formF x.f0 ≠ 5 ∧ formF x.f0 ≠ 6) ∧ x.f1 ≠ 0) ∨ (formF x.f0 ≠ 6 ∧ x.f2 ≠ 0) ∨ (formF x.f0 ≠ 8 ∧ x.f3 ≠ 0) ∨ (formF x.f0 ≠ 4 ∧ 0 < x.f5.length) then false
  else if ((formF x.f0 ≠ 1 ∧ formF x.f0 ≠ 2) ∧ (x.f4 ≠ 0 ∨ 0 < x.f6.length)) ∨ (formF x.f0 ≠ 2 ∧ 0 < x.f7.length) then false
  else if formF x.f0 = 1 ∨ formF x.f0 = 2 then (x.f4 == 64) || tmayB x.f4
  else if formF x.f0 = 8 then wideB x.f0 || u32B x.f3
  else if formF x.f0 = 4 then !anyNo x.f5 && decide (1 ≤ x.f5.length ∧ x.f5.length ≤ 1024)
  else true
theorem u32_0 : u32B 0 = true := by decide
theorem form_k {op k : Int} (h : formF op = k) (w : World) : Calls Try.prog 84 #[.int .i64 op] w fun e w' => e = .returned (.int .i64 k) ∧ Drawn0 w w' := h ▸ form_c op w
theorem formF_range (op : Int) : formF op = 0 ∨ formF op = 1 ∨ formF op = 2 ∨ formF op = 3 ∨ formF op = 4 ∨ formF op = 5 ∨ formF op = 6 ∨ formF op = 7 ∨ formF op = 8 ∨ formF op = 9 := by
  unfold formF
  repeat' split
  all_goals omega
theorem form8 {op : Int} (h : formF op = 8) : wideB op = true ∧ (op = 66 ∨ op = 68) ∨ wideB op = false ∧ op ≠ 66 ∧ op ≠ 68 := by
  unfold wideB
  by_cases h1 : op = 66 ∨ op = 68
  · exact .inl ⟨decide_eq_true h1, h1⟩
  · exact .inr ⟨decide_eq_false h1, by omega, by omega⟩
def RelW (w1 : World) (l : List Int) (n : Nat) (v4 : Value) (wr : World) : Prop := ∃ i : Nat, i + n = l.length ∧ v4 = .int .i64 i ∧ anyNo (l.take i) = false ∧ Drawn0 w1 wr
theorem anyNo_take {l : List Int} {i : Nat} (hi : i < l.length) (h : anyNo (l.take i) = false) (hx : u32B l[i] = true) : anyNo (l.take (i + 1)) = false := by
  unfold anyNo at h ⊢
  rw [List.take_add_one, List.any_append, h, List.getElem?_eq_getElem hi]
  simp [hx]
theorem anyNo_at {l : List Int} {i : Nat} (hi : i < l.length) (hx : u32B l[i] = false) : anyNo l = true := by
  unfold anyNo
  exact List.any_eq_true.2 ⟨l[i], List.getElem_mem hi, by simp [hx]⟩
theorem u32_w {x : Int} {b : Bool} (h : u32B x = b) (w : World) : Calls Try.prog 86 #[.int .i64 x] w fun e w' => e = .returned (.bool b) ∧ Drawn0 w w' := h ▸ word_c x w
theorem at_int {w : World} {A : Option Addr} {l : List Int} (h : (Kd.int .i64).C w A l.length l) (i : Nat) (hi : i < l.length) : ∃ ad, A = some ad ∧ w.cell? (ad.add i) = some (.int .i64 l[i]) := by
  obtain ⟨ad, cs, rfl, _, hK, hcc⟩ := Kd.C_get h 0 (i : Int) (by omega) (by omega)
  have hz : l.getD ((i : Int)).toNat 0 = l[i] := by simp [List.getD_eq_getElem?_getD, hi]
  rw [hz] at hK
  obtain rfl := hK
  exact ⟨ad, rfl, by simpa [show (Kd.int .i64).sz = 1 from rfl] using hcc 0 _ rfl⟩
set_option maxHeartbeats 4000000 in
set_option maxRecDepth 100000 in
theorem rmay_0 {w : World} {x : S106} {A5 A6 A7 : Option Addr} {c5 c6 c7 : Nat} (hk : formF x.f0 = 0) (l5 : x.f5.length ≤ c5) (C5 : (Kd.int .i64).C w A5 x.f5.length x.f5) :
    Calls Try.prog 85 #[.agg #[.int .i64 x.f0, .int .i64 x.f1, .int .i64 x.f2, .int .i64 x.f3, .int .i64 x.f4, .slice A5 x.f5.length c5, .slice A6 x.f6.length c6, .slice A7 x.f7.length c7]] w fun e w' => e = .returned (.bool (rmayB x)) ∧ Below w.heap.size w w' := by
  have HK := Aside0.mk hk
  have HC := Aside0.mk C5
  have HM := Aside0.mk (Kd.C_max C5)
  have e0 := u32_0
  clear C5 l5 hk
  go_enter Try.func85, Try.ntmps85
  go_wp2_with (first | ((with_reducible refine gate_dst (N := 1) rfl ?_); refine box_event ?hg (N := 1) ?hd (cs := #[.int .i64 x.f0, .int .i64 x.f1, .int .i64 x.f2, .int .i64 x.f3, .int .i64 x.f4, .slice A5 x.f5.length c5, .slice A6 x.f6.length c6, .slice A7 x.f7.length c7]) (t := 106) ?hr ?_; (case hd => rfl); (case hg => rfl); (case hr => first | (go_simp; done) | (go_simp; rfl)); intro g hgg w1 hA hb; have GA := Aside0.mk hA; have HB := Aside0.mk hb; have y0 : w1.cell? ⟨g, 0, none⟩ = some (.int .i64 x.f0) := blk_cell hA 0; have y1 : w1.cell? ⟨g, 1, none⟩ = some (.int .i64 x.f1) := blk_cell hA 1; have y2 : w1.cell? ⟨g, 2, none⟩ = some (.int .i64 x.f2) := blk_cell hA 2; have y3 : w1.cell? ⟨g, 3, none⟩ = some (.int .i64 x.f3) := blk_cell hA 3; have y4 : w1.cell? ⟨g, 4, none⟩ = some (.int .i64 x.f4) := blk_cell hA 4; have y5 : w1.cell? ⟨g, 5, none⟩ = some (.slice A5 x.f5.length c5) := blk_cell hA 5; have y6 : w1.cell? ⟨g, 6, none⟩ = some (.slice A6 x.f6.length c6) := blk_cell hA 6; have y7 : w1.cell? ⟨g, 7, none⟩ = some (.slice A7 x.f7.length c7) := blk_cell hA 7; clear hgg hA hb) | (go_at_call 84; (with_reducible refine (form_k HK.out _).mono ?_); rintro e w' ⟨rfl, ⟨n, rfl⟩⟩) | (go_at_call 86; (with_reducible refine (word_c _ _).mono ?_); rintro e w' ⟨rfl, ⟨n, rfl⟩⟩) | (go_at_call 61; (with_reducible refine (tmay_c _ _).mono ?_); rintro e w' ⟨rfl, ⟨n, rfl⟩⟩))
  all_goals
    first | exact absurd (List.length_pos_iff.2 (by assumption)) (by assumption) | (go_ret; refine ⟨ret_b ?_, pw_below_drewN HB.out _⟩; unfold rmayB; rw [HK.out]; first | (simp [u32_0, wideB, *]; done) | (simp [u32_0, wideB, *]; omega) | (have q : 1 ≤ x.f5.length := (by omega); simp [u32_0, wideB, q, *]; omega))
set_option maxHeartbeats 4000000 in
set_option maxRecDepth 100000 in
theorem rmay_1 {w : World} {x : S106} {A5 A6 A7 : Option Addr} {c5 c6 c7 : Nat} (hk : formF x.f0 = 1) (l5 : x.f5.length ≤ c5) (C5 : (Kd.int .i64).C w A5 x.f5.length x.f5) :
    Calls Try.prog 85 #[.agg #[.int .i64 x.f0, .int .i64 x.f1, .int .i64 x.f2, .int .i64 x.f3, .int .i64 x.f4, .slice A5 x.f5.length c5, .slice A6 x.f6.length c6, .slice A7 x.f7.length c7]] w fun e w' => e = .returned (.bool (rmayB x)) ∧ Below w.heap.size w w' := by
  have HK := Aside0.mk hk
  have HC := Aside0.mk C5
  have HM := Aside0.mk (Kd.C_max C5)
  have e0 := u32_0
  clear C5 l5 hk
  go_enter Try.func85, Try.ntmps85
  go_wp2_with (first | ((with_reducible refine gate_dst (N := 1) rfl ?_); refine box_event ?hg (N := 1) ?hd (cs := #[.int .i64 x.f0, .int .i64 x.f1, .int .i64 x.f2, .int .i64 x.f3, .int .i64 x.f4, .slice A5 x.f5.length c5, .slice A6 x.f6.length c6, .slice A7 x.f7.length c7]) (t := 106) ?hr ?_; (case hd => rfl); (case hg => rfl); (case hr => first | (go_simp; done) | (go_simp; rfl)); intro g hgg w1 hA hb; have GA := Aside0.mk hA; have HB := Aside0.mk hb; have y0 : w1.cell? ⟨g, 0, none⟩ = some (.int .i64 x.f0) := blk_cell hA 0; have y1 : w1.cell? ⟨g, 1, none⟩ = some (.int .i64 x.f1) := blk_cell hA 1; have y2 : w1.cell? ⟨g, 2, none⟩ = some (.int .i64 x.f2) := blk_cell hA 2; have y3 : w1.cell? ⟨g, 3, none⟩ = some (.int .i64 x.f3) := blk_cell hA 3; have y4 : w1.cell? ⟨g, 4, none⟩ = some (.int .i64 x.f4) := blk_cell hA 4; have y5 : w1.cell? ⟨g, 5, none⟩ = some (.slice A5 x.f5.length c5) := blk_cell hA 5; have y6 : w1.cell? ⟨g, 6, none⟩ = some (.slice A6 x.f6.length c6) := blk_cell hA 6; have y7 : w1.cell? ⟨g, 7, none⟩ = some (.slice A7 x.f7.length c7) := blk_cell hA 7; clear hgg hA hb) | (go_at_call 84; (with_reducible refine (form_k HK.out _).mono ?_); rintro e w' ⟨rfl, ⟨n, rfl⟩⟩) | (go_at_call 86; (with_reducible refine (word_c _ _).mono ?_); rintro e w' ⟨rfl, ⟨n, rfl⟩⟩) | (go_at_call 61; (with_reducible refine (tmay_c _ _).mono ?_); rintro e w' ⟨rfl, ⟨n, rfl⟩⟩))
  all_goals
    first | exact absurd (List.length_pos_iff.2 (by assumption)) (by assumption) | (go_ret; refine ⟨ret_b ?_, pw_below_drewN HB.out _⟩; unfold rmayB; rw [HK.out]; first | (simp [u32_0, wideB, *]; done) | (simp [u32_0, wideB, *]; omega) | (have q : 1 ≤ x.f5.length := (by omega); simp [u32_0, wideB, q, *]; omega))
set_option maxHeartbeats 4000000 in
set_option maxRecDepth 100000 in
theorem rmay_2 {w : World} {x : S106} {A5 A6 A7 : Option Addr} {c5 c6 c7 : Nat} (hk : formF x.f0 = 2) (l5 : x.f5.length ≤ c5) (C5 : (Kd.int .i64).C w A5 x.f5.length x.f5) :
    Calls Try.prog 85 #[.agg #[.int .i64 x.f0, .int .i64 x.f1, .int .i64 x.f2, .int .i64 x.f3, .int .i64 x.f4, .slice A5 x.f5.length c5, .slice A6 x.f6.length c6, .slice A7 x.f7.length c7]] w fun e w' => e = .returned (.bool (rmayB x)) ∧ Below w.heap.size w w' := by
  have HK := Aside0.mk hk
  have HC := Aside0.mk C5
  have HM := Aside0.mk (Kd.C_max C5)
  have e0 := u32_0
  clear C5 l5 hk
  go_enter Try.func85, Try.ntmps85
  go_wp2_with (first | ((with_reducible refine gate_dst (N := 1) rfl ?_); refine box_event ?hg (N := 1) ?hd (cs := #[.int .i64 x.f0, .int .i64 x.f1, .int .i64 x.f2, .int .i64 x.f3, .int .i64 x.f4, .slice A5 x.f5.length c5, .slice A6 x.f6.length c6, .slice A7 x.f7.length c7]) (t := 106) ?hr ?_; (case hd => rfl); (case hg => rfl); (case hr => first | (go_simp; done) | (go_simp; rfl)); intro g hgg w1 hA hb; have GA := Aside0.mk hA; have HB := Aside0.mk hb; have y0 : w1.cell? ⟨g, 0, none⟩ = some (.int .i64 x.f0) := blk_cell hA 0; have y1 : w1.cell? ⟨g, 1, none⟩ = some (.int .i64 x.f1) := blk_cell hA 1; have y2 : w1.cell? ⟨g, 2, none⟩ = some (.int .i64 x.f2) := blk_cell hA 2; have y3 : w1.cell? ⟨g, 3, none⟩ = some (.int .i64 x.f3) := blk_cell hA 3; have y4 : w1.cell? ⟨g, 4, none⟩ = some (.int .i64 x.f4) := blk_cell hA 4; have y5 : w1.cell? ⟨g, 5, none⟩ = some (.slice A5 x.f5.length c5) := blk_cell hA 5; have y6 : w1.cell? ⟨g, 6, none⟩ = some (.slice A6 x.f6.length c6) := blk_cell hA 6; have y7 : w1.cell? ⟨g, 7, none⟩ = some (.slice A7 x.f7.length c7) := blk_cell hA 7; clear hgg hA hb) | (go_at_call 84; (with_reducible refine (form_k HK.out _).mono ?_); rintro e w' ⟨rfl, ⟨n, rfl⟩⟩) | (go_at_call 86; (with_reducible refine (word_c _ _).mono ?_); rintro e w' ⟨rfl, ⟨n, rfl⟩⟩) | (go_at_call 61; (with_reducible refine (tmay_c _ _).mono ?_); rintro e w' ⟨rfl, ⟨n, rfl⟩⟩))
  all_goals
    first | exact absurd (List.length_pos_iff.2 (by assumption)) (by assumption) | (go_ret; refine ⟨ret_b ?_, pw_below_drewN HB.out _⟩; unfold rmayB; rw [HK.out]; first | (simp [u32_0, wideB, *]; done) | (simp [u32_0, wideB, *]; omega) | (have q : 1 ≤ x.f5.length := (by omega); simp [u32_0, wideB, q, *]; omega))
set_option maxHeartbeats 4000000 in
set_option maxRecDepth 100000 in
theorem rmay_3 {w : World} {x : S106} {A5 A6 A7 : Option Addr} {c5 c6 c7 : Nat} (hk : formF x.f0 = 3) (l5 : x.f5.length ≤ c5) (C5 : (Kd.int .i64).C w A5 x.f5.length x.f5) :
    Calls Try.prog 85 #[.agg #[.int .i64 x.f0, .int .i64 x.f1, .int .i64 x.f2, .int .i64 x.f3, .int .i64 x.f4, .slice A5 x.f5.length c5, .slice A6 x.f6.length c6, .slice A7 x.f7.length c7]] w fun e w' => e = .returned (.bool (rmayB x)) ∧ Below w.heap.size w w' := by
  have HK := Aside0.mk hk
  have HC := Aside0.mk C5
  have HM := Aside0.mk (Kd.C_max C5)
  have e0 := u32_0
  clear C5 l5 hk
  go_enter Try.func85, Try.ntmps85
  go_wp2_with (first | ((with_reducible refine gate_dst (N := 1) rfl ?_); refine box_event ?hg (N := 1) ?hd (cs := #[.int .i64 x.f0, .int .i64 x.f1, .int .i64 x.f2, .int .i64 x.f3, .int .i64 x.f4, .slice A5 x.f5.length c5, .slice A6 x.f6.length c6, .slice A7 x.f7.length c7]) (t := 106) ?hr ?_; (case hd => rfl); (case hg => rfl); (case hr => first | (go_simp; done) | (go_simp; rfl)); intro g hgg w1 hA hb; have GA := Aside0.mk hA; have HB := Aside0.mk hb; have y0 : w1.cell? ⟨g, 0, none⟩ = some (.int .i64 x.f0) := blk_cell hA 0; have y1 : w1.cell? ⟨g, 1, none⟩ = some (.int .i64 x.f1) := blk_cell hA 1; have y2 : w1.cell? ⟨g, 2, none⟩ = some (.int .i64 x.f2) := blk_cell hA 2; have y3 : w1.cell? ⟨g, 3, none⟩ = some (.int .i64 x.f3) := blk_cell hA 3; have y4 : w1.cell? ⟨g, 4, none⟩ = some (.int .i64 x.f4) := blk_cell hA 4; have y5 : w1.cell? ⟨g, 5, none⟩ = some (.slice A5 x.f5.length c5) := blk_cell hA 5; have y6 : w1.cell? ⟨g, 6, none⟩ = some (.slice A6 x.f6.length c6) := blk_cell hA 6; have y7 : w1.cell? ⟨g, 7, none⟩ = some (.slice A7 x.f7.length c7) := blk_cell hA 7; clear hgg hA hb) | (go_at_call 84; (with_reducible refine (form_k HK.out _).mono ?_); rintro e w' ⟨rfl, ⟨n, rfl⟩⟩) | (go_at_call 86; (with_reducible refine (word_c _ _).mono ?_); rintro e w' ⟨rfl, ⟨n, rfl⟩⟩) | (go_at_call 61; (with_reducible refine (tmay_c _ _).mono ?_); rintro e w' ⟨rfl, ⟨n, rfl⟩⟩))
  all_goals
    first | exact absurd (List.length_pos_iff.2 (by assumption)) (by assumption) | (go_ret; refine ⟨ret_b ?_, pw_below_drewN HB.out _⟩; unfold rmayB; rw [HK.out]; first | (simp [u32_0, wideB, *]; done) | (simp [u32_0, wideB, *]; omega) | (have q : 1 ≤ x.f5.length := (by omega); simp [u32_0, wideB, q, *]; omega))
set_option maxHeartbeats 4000000 in
set_option maxRecDepth 100000 in
theorem rmay_4 {w : World} {x : S106} {A5 A6 A7 : Option Addr} {c5 c6 c7 : Nat} (hk : formF x.f0 = 4) (l5 : x.f5.length ≤ c5) (C5 : (Kd.int .i64).C w A5 x.f5.length x.f5) :
    Calls Try.prog 85 #[.agg #[.int .i64 x.f0, .int .i64 x.f1, .int .i64 x.f2, .int .i64 x.f3, .int .i64 x.f4, .slice A5 x.f5.length c5, .slice A6 x.f6.length c6, .slice A7 x.f7.length c7]] w fun e w' => e = .returned (.bool (rmayB x)) ∧ Below w.heap.size w w' := by
  have HK := Aside0.mk hk
  have HC := Aside0.mk C5
  have HM := Aside0.mk (Kd.C_max C5)
  have e0 := u32_0
  clear C5 l5 hk
  obtain ⟨b6, d6⟩ : ∃ b, decide (0 < x.f6.length) = b := ⟨_, rfl⟩
  obtain ⟨b7, d7⟩ : ∃ b, decide (0 < x.f7.length) = b := ⟨_, rfl⟩
  cases b6 <;> cases b7
  case true.true | true.false | false.true =>
    all_goals
      go_enter Try.func85, Try.ntmps85
      go_wp2_with (first | ((with_reducible refine gate_dst (N := 1) rfl ?_); refine box_event ?hg (N := 1) ?hd (cs := #[.int .i64 x.f0, .int .i64 x.f1, .int .i64 x.f2, .int .i64 x.f3, .int .i64 x.f4, .slice A5 x.f5.length c5, .slice A6 x.f6.length c6, .slice A7 x.f7.length c7]) (t := 106) ?hr ?_; (case hd => rfl); (case hg => rfl); (case hr => first | (go_simp; done) | (go_simp; rfl)); intro g hgg w1 hA hb; have GA := Aside0.mk hA; have HB := Aside0.mk hb; have y0 : w1.cell? ⟨g, 0, none⟩ = some (.int .i64 x.f0) := blk_cell hA 0; have y1 : w1.cell? ⟨g, 1, none⟩ = some (.int .i64 x.f1) := blk_cell hA 1; have y2 : w1.cell? ⟨g, 2, none⟩ = some (.int .i64 x.f2) := blk_cell hA 2; have y3 : w1.cell? ⟨g, 3, none⟩ = some (.int .i64 x.f3) := blk_cell hA 3; have y4 : w1.cell? ⟨g, 4, none⟩ = some (.int .i64 x.f4) := blk_cell hA 4; have y5 : w1.cell? ⟨g, 5, none⟩ = some (.slice A5 x.f5.length c5) := blk_cell hA 5; have y6 : w1.cell? ⟨g, 6, none⟩ = some (.slice A6 x.f6.length c6) := blk_cell hA 6; have y7 : w1.cell? ⟨g, 7, none⟩ = some (.slice A7 x.f7.length c7) := blk_cell hA 7; clear hgg hA hb) | (go_at_call 84; (with_reducible refine (form_k HK.out _).mono ?_); rintro e w' ⟨rfl, ⟨n, rfl⟩⟩) | (go_at_call 86; (with_reducible refine (word_c _ _).mono ?_); rintro e w' ⟨rfl, ⟨n, rfl⟩⟩) | (go_at_call 61; (with_reducible refine (tmay_c _ _).mono ?_); rintro e w' ⟨rfl, ⟨n, rfl⟩⟩))
      all_goals
        first | exact absurd (List.length_pos_iff.2 (by assumption)) (by assumption) | (go_ret; refine ⟨ret_b ?_, pw_below_drewN HB.out _⟩; unfold rmayB; rw [HK.out]; first | (simp [u32_0, wideB, *]; done) | (simp [u32_0, wideB, *]; omega) | (have q : 1 ≤ x.f5.length := (by omega); simp [u32_0, wideB, q, *]; omega))
  go_enter Try.func85, Try.ntmps85
  go_wp2_with (first | ((with_reducible refine gate_dst (N := 1) rfl ?_); refine box_event ?hg (N := 1) ?hd (cs := #[.int .i64 x.f0, .int .i64 x.f1, .int .i64 x.f2, .int .i64 x.f3, .int .i64 x.f4, .slice A5 x.f5.length c5, .slice A6 x.f6.length c6, .slice A7 x.f7.length c7]) (t := 106) ?hr ?_; (case hd => rfl); (case hg => rfl); (case hr => first | (go_simp; done) | (go_simp; rfl)); intro g hgg w1 hA hb; have GA := Aside0.mk hA; have HB := Aside0.mk hb; have y0 : w1.cell? ⟨g, 0, none⟩ = some (.int .i64 x.f0) := blk_cell hA 0; have y1 : w1.cell? ⟨g, 1, none⟩ = some (.int .i64 x.f1) := blk_cell hA 1; have y2 : w1.cell? ⟨g, 2, none⟩ = some (.int .i64 x.f2) := blk_cell hA 2; have y3 : w1.cell? ⟨g, 3, none⟩ = some (.int .i64 x.f3) := blk_cell hA 3; have y4 : w1.cell? ⟨g, 4, none⟩ = some (.int .i64 x.f4) := blk_cell hA 4; have y5 : w1.cell? ⟨g, 5, none⟩ = some (.slice A5 x.f5.length c5) := blk_cell hA 5; have y6 : w1.cell? ⟨g, 6, none⟩ = some (.slice A6 x.f6.length c6) := blk_cell hA 6; have y7 : w1.cell? ⟨g, 7, none⟩ = some (.slice A7 x.f7.length c7) := blk_cell hA 7; clear hgg hA hb) | (go_at_call 84; (with_reducible refine (form_k HK.out _).mono ?_); rintro e w' ⟨rfl, ⟨n, rfl⟩⟩) | (go_at_call 86; (with_reducible refine (word_c _ _).mono ?_); rintro e w' ⟨rfl, ⟨n, rfl⟩⟩) | (go_at_call 61; (with_reducible refine (tmay_c _ _).mono ?_); rintro e w' ⟨rfl, ⟨n, rfl⟩⟩))
  all_goals first
    | (first | exact absurd (List.length_pos_iff.2 (by assumption)) (by assumption) | (go_ret; refine ⟨ret_b ?_, pw_below_drewN HB.out _⟩; unfold rmayB; rw [HK.out]; first | (simp [u32_0, wideB, *]; done) | (simp [u32_0, wideB, *]; omega) | (have q : 1 ≤ x.f5.length := (by omega); simp [u32_0, wideB, q, *]; omega)))
    | skip
  go_loopg [4] x.f5.length (fun n v4 wr => RelW w1 x.f5 n v4 wr)
  case atStart => exact ⟨0, by omega, rfl, rfl, by first | exact ⟨⟨_, rfl⟩⟩ | exact Drawn0.refl _⟩
  case round =>
    obtain ⟨i, hi, rfl, hn, ⟨⟨nd, rfl⟩⟩⟩ := hrel
    have I1 := Aside0.mk hi
    have HN := Aside0.mk hn
    clear hi hn
    by_cases hlt : i < x.f5.length
    · have dl : decide (i < x.f5.length) = true := decide_eq_true hlt
      have w1' : wrap64 ((i : Int) + 1) = (i : Int) + 1 := by have := HM.out; unfold wrap64; omega
      obtain ⟨ad, rfl, e1⟩ := at_int HC.out i hlt
      have z1 := pw_cell_below (pw_below_drewN HB.out nd) e1
      have HLT := Aside0.mk hlt
      clear e1
      cases hu : u32B x.f5[i] with
      | true =>
        go_wp2_with (first | (go_at_call 86; (with_reducible refine (u32_w hu _).mono ?_); rintro e w' ⟨rfl, ⟨n, rfl⟩⟩))
        go_roundg (x.f5.length - (i + 1))
        case measure => have := I1.out; have := HLT.out; omega
        case rel => exact ⟨i + 1, by have := HLT.out; omega, by go_num, anyNo_take HLT.out HN.out hu, by first | exact ⟨⟨_, rfl⟩⟩ | exact ⟨⟨_, World.drewN_drewN _ _ _⟩⟩⟩
      | false =>
        have AN := anyNo_at hlt hu
        go_wp2_with (first | (go_at_call 86; (with_reducible refine (u32_w hu _).mono ?_); rintro e w' ⟨rfl, ⟨n, rfl⟩⟩))
        first | exact absurd (List.length_pos_iff.2 (by assumption)) (by assumption) | (go_ret; refine ⟨ret_b ?_, pw_below_drewN HB.out _⟩; unfold rmayB; rw [HK.out]; first | (simp [u32_0, wideB, *]; done) | (simp [u32_0, wideB, *]; omega) | (have q : 1 ≤ x.f5.length := (by omega); simp [u32_0, wideB, q, *]; omega))
    · have dl : decide (i < x.f5.length) = false := decide_eq_false hlt
      obtain rfl : i = x.f5.length := by have := I1.out; omega
      have AN : anyNo x.f5 = false := by have := HN.out; rwa [List.take_length] at this
      go_wp2_with (first | fail)
      all_goals
        first | exact absurd (List.length_pos_iff.2 (by assumption)) (by assumption) | (go_ret; refine ⟨ret_b ?_, pw_below_drewN HB.out _⟩; unfold rmayB; rw [HK.out]; first | (simp [u32_0, wideB, *]; done) | (simp [u32_0, wideB, *]; omega) | (have q : 1 ≤ x.f5.length := (by omega); simp [u32_0, wideB, q, *]; omega))
set_option maxHeartbeats 4000000 in
set_option maxRecDepth 100000 in
theorem rmay_5 {w : World} {x : S106} {A5 A6 A7 : Option Addr} {c5 c6 c7 : Nat} (hk : formF x.f0 = 5) (l5 : x.f5.length ≤ c5) (C5 : (Kd.int .i64).C w A5 x.f5.length x.f5) :
    Calls Try.prog 85 #[.agg #[.int .i64 x.f0, .int .i64 x.f1, .int .i64 x.f2, .int .i64 x.f3, .int .i64 x.f4, .slice A5 x.f5.length c5, .slice A6 x.f6.length c6, .slice A7 x.f7.length c7]] w fun e w' => e = .returned (.bool (rmayB x)) ∧ Below w.heap.size w w' := by
  have HK := Aside0.mk hk
  have HC := Aside0.mk C5
  have HM := Aside0.mk (Kd.C_max C5)
  have e0 := u32_0
  clear C5 l5 hk
  go_enter Try.func85, Try.ntmps85
  go_wp2_with (first | ((with_reducible refine gate_dst (N := 1) rfl ?_); refine box_event ?hg (N := 1) ?hd (cs := #[.int .i64 x.f0, .int .i64 x.f1, .int .i64 x.f2, .int .i64 x.f3, .int .i64 x.f4, .slice A5 x.f5.length c5, .slice A6 x.f6.length c6, .slice A7 x.f7.length c7]) (t := 106) ?hr ?_; (case hd => rfl); (case hg => rfl); (case hr => first | (go_simp; done) | (go_simp; rfl)); intro g hgg w1 hA hb; have GA := Aside0.mk hA; have HB := Aside0.mk hb; have y0 : w1.cell? ⟨g, 0, none⟩ = some (.int .i64 x.f0) := blk_cell hA 0; have y1 : w1.cell? ⟨g, 1, none⟩ = some (.int .i64 x.f1) := blk_cell hA 1; have y2 : w1.cell? ⟨g, 2, none⟩ = some (.int .i64 x.f2) := blk_cell hA 2; have y3 : w1.cell? ⟨g, 3, none⟩ = some (.int .i64 x.f3) := blk_cell hA 3; have y4 : w1.cell? ⟨g, 4, none⟩ = some (.int .i64 x.f4) := blk_cell hA 4; have y5 : w1.cell? ⟨g, 5, none⟩ = some (.slice A5 x.f5.length c5) := blk_cell hA 5; have y6 : w1.cell? ⟨g, 6, none⟩ = some (.slice A6 x.f6.length c6) := blk_cell hA 6; have y7 : w1.cell? ⟨g, 7, none⟩ = some (.slice A7 x.f7.length c7) := blk_cell hA 7; clear hgg hA hb) | (go_at_call 84; (with_reducible refine (form_k HK.out _).mono ?_); rintro e w' ⟨rfl, ⟨n, rfl⟩⟩) | (go_at_call 86; (with_reducible refine (word_c _ _).mono ?_); rintro e w' ⟨rfl, ⟨n, rfl⟩⟩) | (go_at_call 61; (with_reducible refine (tmay_c _ _).mono ?_); rintro e w' ⟨rfl, ⟨n, rfl⟩⟩))
  all_goals
    first | exact absurd (List.length_pos_iff.2 (by assumption)) (by assumption) | (go_ret; refine ⟨ret_b ?_, pw_below_drewN HB.out _⟩; unfold rmayB; rw [HK.out]; first | (simp [u32_0, wideB, *]; done) | (simp [u32_0, wideB, *]; omega) | (have q : 1 ≤ x.f5.length := (by omega); simp [u32_0, wideB, q, *]; omega))
set_option maxHeartbeats 4000000 in
set_option maxRecDepth 100000 in
theorem rmay_6 {w : World} {x : S106} {A5 A6 A7 : Option Addr} {c5 c6 c7 : Nat} (hk : formF x.f0 = 6) (l5 : x.f5.length ≤ c5) (C5 : (Kd.int .i64).C w A5 x.f5.length x.f5) :
    Calls Try.prog 85 #[.agg #[.int .i64 x.f0, .int .i64 x.f1, .int .i64 x.f2, .int .i64 x.f3, .int .i64 x.f4, .slice A5 x.f5.length c5, .slice A6 x.f6.length c6, .slice A7 x.f7.length c7]] w fun e w' => e = .returned (.bool (rmayB x)) ∧ Below w.heap.size w w' := by
  have HK := Aside0.mk hk
  have HC := Aside0.mk C5
  have HM := Aside0.mk (Kd.C_max C5)
  have e0 := u32_0
  clear C5 l5 hk
  go_enter Try.func85, Try.ntmps85
  go_wp2_with (first | ((with_reducible refine gate_dst (N := 1) rfl ?_); refine box_event ?hg (N := 1) ?hd (cs := #[.int .i64 x.f0, .int .i64 x.f1, .int .i64 x.f2, .int .i64 x.f3, .int .i64 x.f4, .slice A5 x.f5.length c5, .slice A6 x.f6.length c6, .slice A7 x.f7.length c7]) (t := 106) ?hr ?_; (case hd => rfl); (case hg => rfl); (case hr => first | (go_simp; done) | (go_simp; rfl)); intro g hgg w1 hA hb; have GA := Aside0.mk hA; have HB := Aside0.mk hb; have y0 : w1.cell? ⟨g, 0, none⟩ = some (.int .i64 x.f0) := blk_cell hA 0; have y1 : w1.cell? ⟨g, 1, none⟩ = some (.int .i64 x.f1) := blk_cell hA 1; have y2 : w1.cell? ⟨g, 2, none⟩ = some (.int .i64 x.f2) := blk_cell hA 2; have y3 : w1.cell? ⟨g, 3, none⟩ = some (.int .i64 x.f3) := blk_cell hA 3; have y4 : w1.cell? ⟨g, 4, none⟩ = some (.int .i64 x.f4) := blk_cell hA 4; have y5 : w1.cell? ⟨g, 5, none⟩ = some (.slice A5 x.f5.length c5) := blk_cell hA 5; have y6 : w1.cell? ⟨g, 6, none⟩ = some (.slice A6 x.f6.length c6) := blk_cell hA 6; have y7 : w1.cell? ⟨g, 7, none⟩ = some (.slice A7 x.f7.length c7) := blk_cell hA 7; clear hgg hA hb) | (go_at_call 84; (with_reducible refine (form_k HK.out _).mono ?_); rintro e w' ⟨rfl, ⟨n, rfl⟩⟩) | (go_at_call 86; (with_reducible refine (word_c _ _).mono ?_); rintro e w' ⟨rfl, ⟨n, rfl⟩⟩) | (go_at_call 61; (with_reducible refine (tmay_c _ _).mono ?_); rintro e w' ⟨rfl, ⟨n, rfl⟩⟩))
  all_goals
    first | exact absurd (List.length_pos_iff.2 (by assumption)) (by assumption) | (go_ret; refine ⟨ret_b ?_, pw_below_drewN HB.out _⟩; unfold rmayB; rw [HK.out]; first | (simp [u32_0, wideB, *]; done) | (simp [u32_0, wideB, *]; omega) | (have q : 1 ≤ x.f5.length := (by omega); simp [u32_0, wideB, q, *]; omega))
set_option maxHeartbeats 4000000 in
set_option maxRecDepth 100000 in
theorem rmay_7 {w : World} {x : S106} {A5 A6 A7 : Option Addr} {c5 c6 c7 : Nat} (hk : formF x.f0 = 7) (l5 : x.f5.length ≤ c5) (C5 : (Kd.int .i64).C w A5 x.f5.length x.f5) :
    Calls Try.prog 85 #[.agg #[.int .i64 x.f0, .int .i64 x.f1, .int .i64 x.f2, .int .i64 x.f3, .int .i64 x.f4, .slice A5 x.f5.length c5, .slice A6 x.f6.length c6, .slice A7 x.f7.length c7]] w fun e w' => e = .returned (.bool (rmayB x)) ∧ Below w.heap.size w w' := by
  have HK := Aside0.mk hk
  have HC := Aside0.mk C5
  have HM := Aside0.mk (Kd.C_max C5)
  have e0 := u32_0
  clear C5 l5 hk
  go_enter Try.func85, Try.ntmps85
  go_wp2_with (first | ((with_reducible refine gate_dst (N := 1) rfl ?_); refine box_event ?hg (N := 1) ?hd (cs := #[.int .i64 x.f0, .int .i64 x.f1, .int .i64 x.f2, .int .i64 x.f3, .int .i64 x.f4, .slice A5 x.f5.length c5, .slice A6 x.f6.length c6, .slice A7 x.f7.length c7]) (t := 106) ?hr ?_; (case hd => rfl); (case hg => rfl); (case hr => first | (go_simp; done) | (go_simp; rfl)); intro g hgg w1 hA hb; have GA := Aside0.mk hA; have HB := Aside0.mk hb; have y0 : w1.cell? ⟨g, 0, none⟩ = some (.int .i64 x.f0) := blk_cell hA 0; have y1 : w1.cell? ⟨g, 1, none⟩ = some (.int .i64 x.f1) := blk_cell hA 1; have y2 : w1.cell? ⟨g, 2, none⟩ = some (.int .i64 x.f2) := blk_cell hA 2; have y3 : w1.cell? ⟨g, 3, none⟩ = some (.int .i64 x.f3) := blk_cell hA 3; have y4 : w1.cell? ⟨g, 4, none⟩ = some (.int .i64 x.f4) := blk_cell hA 4; have y5 : w1.cell? ⟨g, 5, none⟩ = some (.slice A5 x.f5.length c5) := blk_cell hA 5; have y6 : w1.cell? ⟨g, 6, none⟩ = some (.slice A6 x.f6.length c6) := blk_cell hA 6; have y7 : w1.cell? ⟨g, 7, none⟩ = some (.slice A7 x.f7.length c7) := blk_cell hA 7; clear hgg hA hb) | (go_at_call 84; (with_reducible refine (form_k HK.out _).mono ?_); rintro e w' ⟨rfl, ⟨n, rfl⟩⟩) | (go_at_call 86; (with_reducible refine (word_c _ _).mono ?_); rintro e w' ⟨rfl, ⟨n, rfl⟩⟩) | (go_at_call 61; (with_reducible refine (tmay_c _ _).mono ?_); rintro e w' ⟨rfl, ⟨n, rfl⟩⟩))
  all_goals
    first | exact absurd (List.length_pos_iff.2 (by assumption)) (by assumption) | (go_ret; refine ⟨ret_b ?_, pw_below_drewN HB.out _⟩; unfold rmayB; rw [HK.out]; first | (simp [u32_0, wideB, *]; done) | (simp [u32_0, wideB, *]; omega) | (have q : 1 ≤ x.f5.length := (by omega); simp [u32_0, wideB, q, *]; omega))
set_option maxHeartbeats 4000000 in
set_option maxRecDepth 100000 in
theorem rmay_8 {w : World} {x : S106} {A5 A6 A7 : Option Addr} {c5 c6 c7 : Nat} (hk : formF x.f0 = 8) (l5 : x.f5.length ≤ c5) (C5 : (Kd.int .i64).C w A5 x.f5.length x.f5) :
    Calls Try.prog 85 #[.agg #[.int .i64 x.f0, .int .i64 x.f1, .int .i64 x.f2, .int .i64 x.f3, .int .i64 x.f4, .slice A5 x.f5.length c5, .slice A6 x.f6.length c6, .slice A7 x.f7.length c7]] w fun e w' => e = .returned (.bool (rmayB x)) ∧ Below w.heap.size w w' := by
  have HK := Aside0.mk hk
  have HC := Aside0.mk C5
  have HM := Aside0.mk (Kd.C_max C5)
  have e0 := u32_0
  clear C5 l5 hk
  go_enter Try.func85, Try.ntmps85
  go_wp2_with (first | ((with_reducible refine gate_dst (N := 1) rfl ?_); refine box_event ?hg (N := 1) ?hd (cs := #[.int .i64 x.f0, .int .i64 x.f1, .int .i64 x.f2, .int .i64 x.f3, .int .i64 x.f4, .slice A5 x.f5.length c5, .slice A6 x.f6.length c6, .slice A7 x.f7.length c7]) (t := 106) ?hr ?_; (case hd => rfl); (case hg => rfl); (case hr => first | (go_simp; done) | (go_simp; rfl)); intro g hgg w1 hA hb; have GA := Aside0.mk hA; have HB := Aside0.mk hb; have y0 : w1.cell? ⟨g, 0, none⟩ = some (.int .i64 x.f0) := blk_cell hA 0; have y1 : w1.cell? ⟨g, 1, none⟩ = some (.int .i64 x.f1) := blk_cell hA 1; have y2 : w1.cell? ⟨g, 2, none⟩ = some (.int .i64 x.f2) := blk_cell hA 2; have y3 : w1.cell? ⟨g, 3, none⟩ = some (.int .i64 x.f3) := blk_cell hA 3; have y4 : w1.cell? ⟨g, 4, none⟩ = some (.int .i64 x.f4) := blk_cell hA 4; have y5 : w1.cell? ⟨g, 5, none⟩ = some (.slice A5 x.f5.length c5) := blk_cell hA 5; have y6 : w1.cell? ⟨g, 6, none⟩ = some (.slice A6 x.f6.length c6) := blk_cell hA 6; have y7 : w1.cell? ⟨g, 7, none⟩ = some (.slice A7 x.f7.length c7) := blk_cell hA 7; clear hgg hA hb) | (go_at_call 84; (with_reducible refine (form_k HK.out _).mono ?_); rintro e w' ⟨rfl, ⟨n, rfl⟩⟩) | (go_at_call 86; (with_reducible refine (word_c _ _).mono ?_); rintro e w' ⟨rfl, ⟨n, rfl⟩⟩) | (go_at_call 61; (with_reducible refine (tmay_c _ _).mono ?_); rintro e w' ⟨rfl, ⟨n, rfl⟩⟩))
  all_goals
    first | exact absurd (List.length_pos_iff.2 (by assumption)) (by assumption) | (go_ret; refine ⟨ret_b ?_, pw_below_drewN HB.out _⟩; unfold rmayB; rw [HK.out]; first | (simp [u32_0, wideB, *]; done) | (simp [u32_0, wideB, *]; omega) | (have q : 1 ≤ x.f5.length := (by omega); simp [u32_0, wideB, q, *]; omega))
set_option maxHeartbeats 4000000 in
set_option maxRecDepth 100000 in
theorem rmay_9 {w : World} {x : S106} {A5 A6 A7 : Option Addr} {c5 c6 c7 : Nat} (hk : formF x.f0 = 9) (l5 : x.f5.length ≤ c5) (C5 : (Kd.int .i64).C w A5 x.f5.length x.f5) :
    Calls Try.prog 85 #[.agg #[.int .i64 x.f0, .int .i64 x.f1, .int .i64 x.f2, .int .i64 x.f3, .int .i64 x.f4, .slice A5 x.f5.length c5, .slice A6 x.f6.length c6, .slice A7 x.f7.length c7]] w fun e w' => e = .returned (.bool (rmayB x)) ∧ Below w.heap.size w w' := by
  have HK := Aside0.mk hk
  have HC := Aside0.mk C5
  have HM := Aside0.mk (Kd.C_max C5)
  have e0 := u32_0
  clear C5 l5 hk
  go_enter Try.func85, Try.ntmps85
  go_wp2_with (first | ((with_reducible refine gate_dst (N := 1) rfl ?_); refine box_event ?hg (N := 1) ?hd (cs := #[.int .i64 x.f0, .int .i64 x.f1, .int .i64 x.f2, .int .i64 x.f3, .int .i64 x.f4, .slice A5 x.f5.length c5, .slice A6 x.f6.length c6, .slice A7 x.f7.length c7]) (t := 106) ?hr ?_; (case hd => rfl); (case hg => rfl); (case hr => first | (go_simp; done) | (go_simp; rfl)); intro g hgg w1 hA hb; have GA := Aside0.mk hA; have HB := Aside0.mk hb; have y0 : w1.cell? ⟨g, 0, none⟩ = some (.int .i64 x.f0) := blk_cell hA 0; have y1 : w1.cell? ⟨g, 1, none⟩ = some (.int .i64 x.f1) := blk_cell hA 1; have y2 : w1.cell? ⟨g, 2, none⟩ = some (.int .i64 x.f2) := blk_cell hA 2; have y3 : w1.cell? ⟨g, 3, none⟩ = some (.int .i64 x.f3) := blk_cell hA 3; have y4 : w1.cell? ⟨g, 4, none⟩ = some (.int .i64 x.f4) := blk_cell hA 4; have y5 : w1.cell? ⟨g, 5, none⟩ = some (.slice A5 x.f5.length c5) := blk_cell hA 5; have y6 : w1.cell? ⟨g, 6, none⟩ = some (.slice A6 x.f6.length c6) := blk_cell hA 6; have y7 : w1.cell? ⟨g, 7, none⟩ = some (.slice A7 x.f7.length c7) := blk_cell hA 7; clear hgg hA hb) | (go_at_call 84; (with_reducible refine (form_k HK.out _).mono ?_); rintro e w' ⟨rfl, ⟨n, rfl⟩⟩) | (go_at_call 86; (with_reducible refine (word_c _ _).mono ?_); rintro e w' ⟨rfl, ⟨n, rfl⟩⟩) | (go_at_call 61; (with_reducible refine (tmay_c _ _).mono ?_); rintro e w' ⟨rfl, ⟨n, rfl⟩⟩))
  all_goals
    first | exact absurd (List.length_pos_iff.2 (by assumption)) (by assumption) | (go_ret; refine ⟨ret_b ?_, pw_below_drewN HB.out _⟩; unfold rmayB; rw [HK.out]; first | (simp [u32_0, wideB, *]; done) | (simp [u32_0, wideB, *]; omega) | (have q : 1 ≤ x.f5.length := (by omega); simp [u32_0, wideB, q, *]; omega))
theorem rmay_c {w : World} {x : S106} {A5 A6 A7 : Option Addr} {c5 c6 c7 : Nat} (l5 : x.f5.length ≤ c5) (C5 : (Kd.int .i64).C w A5 x.f5.length x.f5) :
    Calls Try.prog 85 #[.agg #[.int .i64 x.f0, .int .i64 x.f1, .int .i64 x.f2, .int .i64 x.f3, .int .i64 x.f4, .slice A5 x.f5.length c5, .slice A6 x.f6.length c6, .slice A7 x.f7.length c7]] w fun e w' => e = .returned (.bool (rmayB x)) ∧ Below w.heap.size w w' := by
  rcases formF_range x.f0 with hk | hk | hk | hk | hk | hk | hk | hk | hk | hk
  · exact rmay_0 hk l5 C5
  · exact rmay_1 hk l5 C5
  · exact rmay_2 hk l5 C5
  · exact rmay_3 hk l5 C5
  · exact rmay_4 hk l5 C5
  · exact rmay_5 hk l5 C5
  · exact rmay_6 hk l5 C5
  · exact rmay_7 hk l5 C5
  · exact rmay_8 hk l5 C5
  · exact rmay_9 hk l5 C5
end Go.Proofs.Ytmofdpkddimmlaa.EInstr
