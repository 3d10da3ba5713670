/-
  What the claim leans on, in the order of its making: words about values and worlds, the printed functions, the decoder in plain words and its walk. Cut to what is used by wip/tools/prune15.py. (EDecRows)
-/
import Derived.Test.YtkdoijfjceeblaaDoorQEDecA
namespace Go.Proofs.YtkdoijfjceeblaaDoor.EDec
open Go Go.RowKit Go.Proofs.YtkdoijfjceeblaaDoor.F Go.Proofs.YtkdoijfjceeblaaDoorW.Hand Go.Proofs.YtkdoijfjceeblaaDoorW.PrintWords Go.Proofs.YtkdoijfjceeblaaDoorW.PrintLast Go.Proofs.YtkdoijfjceeblaaDoorW.PrintMore
open Go.Proofs.YtkdoijfjceeblaaDoor.LebGets (G)
open Go.Proofs.YtkdoijfjceeblaaDoor.ENames (Tabs tabs_below nget nmay)
open Go.Proofs.YtkdoijfjceeblaaDoor.EInstr (GRes pGet get_b ret_int wrap_bt)
set_option linter.unusedVariables false
set_option linter.unusedSimpArgs false
def chkRow (x y : Int) : Bool := x == 8 || y == 8 || (match dMod (({ data := #[0, 97, 115, 109, 1, 0, 0, 0] } : ByteArray) ++ strOfNums [x % 256, 1, 0] ++ strOfNums [y % 256, 1, 0]) with
  | .ok _ => decide (x < y)
  | .error c => c == 1503 && !decide (x < y))
theorem chk_all : ((List.range 11).all fun i => (List.range 11).all fun j => chkRow ((i : Int) + 1) ((j : Int) + 1)) = true := by kernel_rfl
theorem row_chk {x y : Int} (hx : 1 ≤ x ∧ x ≤ 11) (hy : 1 ≤ y ∧ y ≤ 11) : chkRow x y = true := by
  have h := List.all_eq_true.1 (List.all_eq_true.1 chk_all (x - 1).toNat (List.mem_range.2 (by omega))) (y - 1).toNat (List.mem_range.2 (by omega))
  rw [show (((x - 1).toNat : Nat) : Int) + 1 = x by omega, show (((y - 1).toNat : Nat) : Int) + 1 = y by omega] at h
  exact h
theorem row_ok {x y : Int} (hx : 1 ≤ x ∧ x ≤ 11) (hy : 1 ≤ y ∧ y ≤ 11) (x8 : x ≠ 8) (y8 : y ≠ 8) (h : x < y) : ∃ m, dMod (({ data := #[0, 97, 115, 109, 1, 0, 0, 0] } : ByteArray) ++ strOfNums [x % 256, 1, 0] ++ strOfNums [y % 256, 1, 0]) = .ok m := by
  have c := row_chk hx hy
  unfold chkRow at c
  rw [beq_eq_false_iff_ne.2 x8, beq_eq_false_iff_ne.2 y8, Bool.false_or, Bool.false_or] at c
  cases hd : dMod (({ data := #[0, 97, 115, 109, 1, 0, 0, 0] } : ByteArray) ++ strOfNums [x % 256, 1, 0] ++ strOfNums [y % 256, 1, 0]) with
  | ok m => exact ⟨m, rfl⟩
  | error e =>
    rw [hd] at c
    simp only [decide_eq_true h, Bool.not_true, Bool.and_false] at c
    cases c
theorem row_er {x y : Int} (hx : 1 ≤ x ∧ x ≤ 11) (hy : 1 ≤ y ∧ y ≤ 11) (x8 : x ≠ 8) (y8 : y ≠ 8) (h : ¬ x < y) : dMod (({ data := #[0, 97, 115, 109, 1, 0, 0, 0] } : ByteArray) ++ strOfNums [x % 256, 1, 0] ++ strOfNums [y % 256, 1, 0]) = .error 1503 := by
  have c := row_chk hx hy
  unfold chkRow at c
  rw [beq_eq_false_iff_ne.2 x8, beq_eq_false_iff_ne.2 y8, Bool.false_or, Bool.false_or] at c
  cases hd : dMod (({ data := #[0, 97, 115, 109, 1, 0, 0, 0] } : ByteArray) ++ strOfNums [x % 256, 1, 0] ++ strOfNums [y % 256, 1, 0]) with
  | ok m =>
    rw [hd] at c
    simp only [decide_eq_false h] at c
    cases c
  | error e =>
    rw [hd] at c
    simp only [decide_eq_false h, Bool.not_false, Bool.and_true] at c
    rw [eq_of_beq c]
set_option maxHeartbeats 4000000 in
set_option maxRecDepth 100000 in
theorem rows_calls (a0 a1 : Int) (W : World) (hT : Tabs W) : Calls Tryd.prog 5 #[.int .i64 a0, .int .i64 a1] W fun e w' => e = .returned (.bool true) ∧ Below W.heap.size W w' := by
  have HT := Aside0.mk hT
  have HB0 := Aside0.mk (Below.refl W.heap.size W)
  have rx := u11_rng a0
  have ry := u11_rng a1
  obtain ⟨x, hx⟩ : ∃ x, wrap64 (1 + wrap64 ((IntKind.u64.wrap a0).tmod 11)) = x := ⟨_, rfl⟩
  obtain ⟨y, hy⟩ : ∃ y, wrap64 (1 + wrap64 ((IntKind.u64.wrap a1).tmod 11)) = y := ⟨_, rfl⟩
  rw [hx] at rx
  rw [hy] at ry
  have RX := Aside0.mk rx
  have RY := Aside0.mk ry
  clear hT rx ry
  by_cases h8 : x = 8
  · have e8 : (x == 8) = true := beq_iff_eq.2 h8
    clear h8
    go_enter Tryd.func5, Tryd.ntmps5
    go_wp2_with (first
      | (go_at_call 12; (with_reducible refine (awake_c HT.out HB0.out).mono ?_); rintro e w1 ⟨rfl, hb⟩; have HB1 := Aside0.mk hb; clear hb HB0))
    go_ret
    exact ⟨rfl, HB1.out⟩
  · have e8 : (x == 8) = false := beq_eq_false_iff_ne.2 h8
    have X8 := Aside0.mk h8
    clear h8
    by_cases k8 : y = 8
    · have f8 : (y == 8) = true := beq_iff_eq.2 k8
      clear k8
      go_enter Tryd.func5, Tryd.ntmps5
      go_wp2_with (first
        | (go_at_call 12; (with_reducible refine (awake_c HT.out HB0.out).mono ?_); rintro e w1 ⟨rfl, hb⟩; have HB1 := Aside0.mk hb; clear hb HB0))
      go_ret
      exact ⟨rfl, HB1.out⟩
    · have f8 : (y == 8) = false := beq_eq_false_iff_ne.2 k8
      have Y8 := Aside0.mk k8
      clear k8
      have zx : (strOfNums [x % 256, 1, 0]).size = 3 := by simp [strOfNums, ByteArray.size]
      have zy : (strOfNums [y % 256, 1, 0]).size = 3 := by simp [strOfNums, ByteArray.size]
      by_cases hlt : x < y
      · have dl : decide (x < y) = true := decide_eq_true hlt
        obtain ⟨m, hm⟩ := row_ok RX.out RY.out X8.out Y8.out hlt
        have HM := Aside0.mk hm
        clear hlt hm
        go_enter Tryd.func5, Tryd.ntmps5
        go_wp2_with (first
          | (go_at_call 12; (with_reducible refine (awake_c HT.out HB0.out).mono ?_); rintro e w1 ⟨rfl, hb⟩; have HB1 := Aside0.mk hb; clear hb HB0)
          | (go_at_call 19; (with_reducible refine (bare_is _ HB1.out).mono ?_); rintro e w2 ⟨rfl, hb⟩; have HB2 := Aside0.mk hb; clear hb HB1)
          | (go_at_call 19; (with_reducible refine (bare_is _ HB2.out).mono ?_); rintro e w3 ⟨rfl, hb⟩; have HB3 := Aside0.mk hb; clear hb HB2)
          | (go_at_call 13; (with_reducible refine (mod_ok_c HM.out HT.out HB3.out).mono ?_); rintro e w4 ⟨A0, c0, A1, c1, A2, c2, A3, c3, A4, c4, A5, c5, A6, c6, A8, c8, A9, c9, A10, c10, rfl, hV, hb⟩; have HB4 := Aside0.mk hb; clear hb HB3; clear hV)
          | ((with_reducible refine gate_dst (N := 7) rfl ?_); refine box_event ?hg (N := 7) ?hd (cs := #[.slice none 0 0, .slice none 0 0, .slice none 0 0, .slice none 0 0, .slice none 0 0, .slice none 0 0, .slice none 0 0, .int .i64 0, .slice none 0 0, .slice none 0 0, .slice none 0 0]) (t := 33) ?hr ?_; (case hd => rfl); (case hg => rfl); (case hr => first | (go_simp; done) | (go_simp; rfl)); intro q1 hgq1 w5 hA hb; have Jq1 := Aside0.mk hA; have Mq1 := Aside0.mk (show W.heap.size ≤ q1 by have := HB4.out.size; omega); have hb := HB4.out.trans (hb.mono HB4.out.size); have HB5 := Aside0.mk hb; clear hb HB4; clear hA hgq1)
          | ((with_reducible refine gate_store (p := 7) rfl ?_); refine storeRow_event (g := q1) rfl rfl rfl (cs := #[.slice A0 m.types.length c0, .slice A1 m.imports.length c1, .slice A2 m.funcs.length c2, .slice A3 m.tables.length c3, .slice A4 m.mems.length c4, .slice A5 m.globals.length c5, .slice A6 m.exports.length c6, .int .i64 m.start, .slice A8 m.elems.length c8, .slice A9 m.codes.length c9, .slice A10 m.datas.length c10]) rfl rfl Jq1.out (by kernel_rfl) rfl (by simp [Value.oneCell']) ?_; intro w6 hA hb ho hs; have hb := hb W.heap.size W Mq1.out HB5.out; have HB6 := Aside0.mk hb; clear hb HB5; clear hA ho hs Jq1 Mq1)
          | (go_at_call 14; (with_reducible refine (num_is _ HB6.out).mono ?_); rintro e w7 ⟨rfl, hb⟩; have HB7 := Aside0.mk hb; clear hb HB6))
        go_ret
        exact ⟨rfl, HB7.out⟩
      · have dl : decide (x < y) = false := decide_eq_false hlt
        have HM := Aside0.mk (row_er RX.out RY.out X8.out Y8.out hlt)
        clear hlt
        go_enter Tryd.func5, Tryd.ntmps5
        go_wp2_with (first
          | (go_at_call 12; (with_reducible refine (awake_c HT.out HB0.out).mono ?_); rintro e w1 ⟨rfl, hb⟩; have HB1 := Aside0.mk hb; clear hb HB0)
          | (go_at_call 19; (with_reducible refine (bare_is _ HB1.out).mono ?_); rintro e w2 ⟨rfl, hb⟩; have HB2 := Aside0.mk hb; clear hb HB1)
          | (go_at_call 19; (with_reducible refine (bare_is _ HB2.out).mono ?_); rintro e w3 ⟨rfl, hb⟩; have HB3 := Aside0.mk hb; clear hb HB2)
          | (go_at_call 13; (with_reducible refine (mod_er_c HM.out HT.out HB3.out).mono ?_); rintro e w4 ⟨rfl, hb⟩; have HB4 := Aside0.mk hb; clear hb HB3)
          | ((with_reducible refine gate_dst (N := 7) rfl ?_); refine box_event ?hg (N := 7) ?hd (cs := #[.slice none 0 0, .slice none 0 0, .slice none 0 0, .slice none 0 0, .slice none 0 0, .slice none 0 0, .slice none 0 0, .int .i64 0, .slice none 0 0, .slice none 0 0, .slice none 0 0]) (t := 33) ?hr ?_; (case hd => rfl); (case hg => rfl); (case hr => first | (go_simp; done) | (go_simp; rfl)); intro q1 hgq1 w5 hA hb; have Jq1 := Aside0.mk hA; have Mq1 := Aside0.mk (show W.heap.size ≤ q1 by have := HB4.out.size; omega); have hb := HB4.out.trans (hb.mono HB4.out.size); have HB5 := Aside0.mk hb; clear hb HB4; clear hA hgq1)
          | ((with_reducible refine gate_store (p := 7) rfl ?_); refine storeRow_event (g := q1) rfl rfl rfl (cs := #[.slice none 0 0, .slice none 0 0, .slice none 0 0, .slice none 0 0, .slice none 0 0, .slice none 0 0, .slice none 0 0, .int .i64 0, .slice none 0 0, .slice none 0 0, .slice none 0 0]) rfl rfl Jq1.out (by kernel_rfl) rfl (by simp [Value.oneCell']) ?_; intro w6 hA hb ho hs; have hb := hb W.heap.size W Mq1.out HB5.out; have HB6 := Aside0.mk hb; clear hb HB5; clear hA ho hs Jq1 Mq1)
          | (go_at_call 14; (with_reducible refine (num_is _ HB6.out).mono ?_); rintro e w7 ⟨rfl, hb⟩; have HB7 := Aside0.mk hb; clear hb HB6))
        go_ret
        exact ⟨rfl, HB7.out⟩
end Go.Proofs.YtkdoijfjceeblaaDoor.EDec
