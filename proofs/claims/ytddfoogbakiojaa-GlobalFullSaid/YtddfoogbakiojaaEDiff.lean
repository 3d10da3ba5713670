/-
  obs.Diff by hand: what it answers, as the print would tell it (the array of eight bools is what the print does not take).
-/
import Derived.Test.YtddfoogbakiojaaFx2
import Derived.Laws.CopyOwn
namespace Go.Proofs.Ytddfoogbakiojaa.F
open Go.RowKit Go.Proofs.YtddfoogbakiojaaW.PrintWords Go.Proofs.YtddfoogbakiojaaW.PrintLast Go.Proofs.YtddfoogbakiojaaW.PrintMore
attribute [local go_sem] max2_int min2_int max_two min_two max_three min_three max_four min_four
set_option linter.unusedVariables false
set_option linter.unusedSimpArgs false

structure HZ (W : World) (g : Nat) : Prop where
  h : W.heap[g]? = some (.cells #[.bool false, .bool false, .bool false, .bool false, .bool false, .bool false, .bool false, .bool false] 81 (0, 0))
theorem hz_new {W w' : World} (hb : Below (W.alloc (.cells #[.bool false, .bool false, .bool false, .bool false, .bool false, .bool false, .bool false, .bool false] 81 (0, 0))).heap.size (W.alloc (.cells #[.bool false, .bool false, .bool false, .bool false, .bool false, .bool false, .bool false, .bool false] 81 (0, 0))) w') : HZ w' W.heap.size := ⟨blk_below (blk_new _ _) hb⟩
theorem hz_newd {W w' : World} (hb : Below (W.alloc (.cells #[.bool false, .bool false, .bool false, .bool false, .bool false, .bool false, .bool false, .bool false] 81 (0, 0))).drew.heap.size (W.alloc (.cells #[.bool false, .bool false, .bool false, .bool false, .bool false, .bool false, .bool false, .bool false] 81 (0, 0))).drew w') : HZ w' W.heap.size := ⟨blk_below (w := (W.alloc (.cells #[.bool false, .bool false, .bool false, .bool false, .bool false, .bool false, .bool false, .bool false] 81 (0, 0))).drew) (blk_new W _) hb⟩
theorem hz_old {W w' : World} {g : Nat} (hb : Below W.heap.size W w') (hq : HZ W g) : HZ w' g := ⟨blk_below hq.h hb⟩
theorem store8 (w : World) (g : Nat) (v0 v1 v2 v3 v4 v5 v6 v7 : Bool) (hq : HZ w g) (ev : Operand → Value) (h5 : ev (.tmp 5) = .pointer (some ⟨g, 0, none⟩)) (h41 : ev (.tmp 41) = .agg #[.bool v0, .bool v1, .bool v2, .bool v3, .bool v4, .bool v5, .bool v6, .bool v7]) (o : Oper) (ho : o.op = .store 81 (.tmp 5) (.tmp 41)) :
   (execOp ev o).run Try.prog w = .ok .skip (w.setRow g #[.bool v0, .bool v1, .bool v2, .bool v3, .bool v4, .bool v5, .bool v6, .bool v7]) := by
  have h := hq.h
  have hs := run_storeVar_row (P := Try.prog) w g 81 81 _ #[.bool v0, .bool v1, .bool v2, .bool v3, .bool v4, .bool v5, .bool v6, .bool v7] h (by kernel_rfl) rfl (by simp [Value.oneCell'])
  have hsa : (Instr.storeAt 81 (.pointer (some ⟨g, 0, none⟩)) (.agg #[.bool v0, .bool v1, .bool v2, .bool v3, .bool v4, .bool v5, .bool v6, .bool v7])).run Try.prog w = .ok () (w.setRow g #[.bool v0, .bool v1, .bool v2, .bool v3, .bool v4, .bool v5, .bool v6, .bool v7]) := by
    unfold Instr.storeAt
    have ha : (Instr.sureAddr (.pointer (some ⟨g, 0, none⟩))).run Try.prog w = .ok ⟨g, 0, none⟩ w := by simp [Instr.sureAddr, go_sem]
    rw [Sem.run_bind, ha]
    exact hs
  unfold execOp
  rw [ho]
  simp only [h5, h41]
  rw [Sem.run_bind, hsa]
  rfl
theorem store8_rule (w : World) (g : Nat) (v0 v1 v2 v3 v4 v5 v6 v7 : Bool) (x0 x1 x2 x3 x4 x6 x7 x8 x9 x10 x11 x12 x13 x14 x15 x16 x17 x18 x19 x20 x21 x22 x23 x24 x25 x26 x27 x28 x29 x30 x31 x32 x33 x34 x35 x36 x37 x38 x39 x40 x42 x43 x44 : Value) (t : TypeId) (p : String) (af : Array Edge) (gd : Option (Nat × Bool)) (ds : List Deferred) (K : Act → World → Prop) (Q : Exit → Act → World → Prop) (hq : HZ w g) :
    Oper.wp Try.prog { dst := none, op := .store 81 (.tmp 5) (.tmp 41), type := t, pos := p, after := af, guard := gd } { tmps := #[x0, x1, x2, x3, x4, .pointer (some ⟨g, 0, none⟩), x6, x7, x8, x9, x10, x11, x12, x13, x14, x15, x16, x17, x18, x19, x20, x21, x22, x23, x24, x25, x26, x27, x28, x29, x30, x31, x32, x33, x34, x35, x36, x37, x38, x39, x40, .agg #[.bool v0, .bool v1, .bool v2, .bool v3, .bool v4, .bool v5, .bool v6, .bool v7], x42, x43, x44], defers := ds } w K Q = K { tmps := #[x0, x1, x2, x3, x4, .pointer (some ⟨g, 0, none⟩), x6, x7, x8, x9, x10, x11, x12, x13, x14, x15, x16, x17, x18, x19, x20, x21, x22, x23, x24, x25, x26, x27, x28, x29, x30, x31, x32, x33, x34, x35, x36, x37, x38, x39, x40, .agg #[.bool v0, .bool v1, .bool v2, .bool v3, .bool v4, .bool v5, .bool v6, .bool v7], x42, x43, x44], defers := ds } (w.setRow g #[.bool v0, .bool v1, .bool v2, .bool v3, .bool v4, .bool v5, .bool v6, .bool v7]) := by
  unfold Oper.wp
  rw [store8 w g v0 v1 v2 v3 v4 v5 v6 v7 hq _ rfl rfl _ rfl]
  rfl
attribute [local go_sem ↓ high] store8_rule
theorem hz_set {B g : Nat} {wb W : World} (hb : B ≤ g) (hy : Below B wb W) (cs : Array Value) : Below B wb (W.setRow g cs) := below_setRow hy hb cs
/-- A row of bools in a block of its own reads as a list. -/
theorem C_bools {W : World} {g : Nat} {t : TypeId} (l : List Bool) (hl : l.length ≤ 9223372036854775807) (h : W.heap[g]? = some (.cells (l.map Value.bool).toArray t (0, 0))) : Kd.C Kd.bool W (some ⟨g, 0, none⟩) l.length l := by
  refine Kd.C_of_reads (enc := Value.bool) (d := false) (h1 := fun _ => rfl) ⟨rfl, hl, fun _ => ⟨_, rfl, fun j hj => ?_⟩⟩
  rw [add_plain, blk_cell h j]
  simp [List.getD_eq_getElem?_getD, hj]
def obs_Diff.f (k : Nat) (a0_0 : Int) (a0_1 : Int) (a0_2 : Int) (l0_3 : List (S29)) (l0_4 : List (S53)) (a0_5 : ByteArray) (l0_6 : List (S29)) (l0_7 : List Int) (l0_8 : List (S68)) (a1_0 : Int) (a1_1 : Int) (a1_2 : Int) (l1_3 : List (S29)) (l1_4 : List (S53)) (a1_5 : ByteArray) (l1_6 : List (S29)) (l1_7 : List Int) (l1_8 : List (S68)) : Option (Int) := (obs_outcome.f k a0_1 a0_2 l0_3 a1_1 a1_2 l1_3).bind fun t1 => ((api_Outcome.f k l0_4 l1_4 ()).bind fun t2 => ((api_Val_46.f k l0_6 l1_6).bind fun t4 => ((slices_Equal_int_int.f k l0_7 l1_7).bind fun t5 => ((api_Heard.f k l0_8 l1_8 ()).bind fun t6 => ((slices_Index_bool_bool.f k [true, a0_0 == a1_0, t1, t2, a0_5.toList == a1_5.toList, t4, t5, t6] false).bind fun t7 => (some (mx 0 t7)))))))
theorem obs_Diff.mono : ∀ a0_0 a0_1 a0_2 l0_3 l0_4 a0_5 l0_6 l0_7 l0_8 a1_0 a1_1 a1_2 l1_3 l1_4 a1_5 l1_6 l1_7 l1_8 k, LeO (obs_Diff.f k a0_0 a0_1 a0_2 l0_3 l0_4 a0_5 l0_6 l0_7 l0_8 a1_0 a1_1 a1_2 l1_3 l1_4 a1_5 l1_6 l1_7 l1_8) (obs_Diff.f (k + 1) a0_0 a0_1 a0_2 l0_3 l0_4 a0_5 l0_6 l0_7 l0_8 a1_0 a1_1 a1_2 l1_3 l1_4 a1_5 l1_6 l1_7 l1_8) := by
  intros
  unfold obs_Diff.f
  repeat' first
      | (with_reducible exact obs_outcome.mono _ _ _ _ _ _ _)
      | (with_reducible exact api_Outcome.mono _ _ _ _)
      | (with_reducible exact api_Val_46.mono _ _ _)
      | (with_reducible exact slices_Equal_int_int.mono _ _ _)
      | (with_reducible exact api_Heard.mono _ _ _ _)
      | (with_reducible exact slices_Index_bool_bool.mono _ _ _)
      | (with_reducible exact LeO.refl _)
      | (with_reducible refine LeO.bind ?_ (fun _ => ?_))

set_option maxHeartbeats 8000000 in
set_option maxRecDepth 100000 in
theorem obs_Diff.calls (k : Nat) (a0_0 : Int) (a0_1 : Int) (a0_2 : Int) (A0_3 : Option Addr) (c0_3 : Nat) (l0_3 : List (S29)) (A0_4 : Option Addr) (c0_4 : Nat) (l0_4 : List (S53)) (a0_5 : ByteArray) (A0_6 : Option Addr) (c0_6 : Nat) (l0_6 : List (S29)) (A0_7 : Option Addr) (c0_7 : Nat) (l0_7 : List Int) (A0_8 : Option Addr) (c0_8 : Nat) (l0_8 : List (S68)) (a1_0 : Int) (a1_1 : Int) (a1_2 : Int) (A1_3 : Option Addr) (c1_3 : Nat) (l1_3 : List (S29)) (A1_4 : Option Addr) (c1_4 : Nat) (l1_4 : List (S53)) (a1_5 : ByteArray) (A1_6 : Option Addr) (c1_6 : Nat) (l1_6 : List (S29)) (A1_7 : Option Addr) (c1_7 : Nat) (l1_7 : List Int) (A1_8 : Option Addr) (c1_8 : Nat) (l1_8 : List (S68)) (r : Int) (w : World) (hr0_3 : Kd.C k29 w A0_3 l0_3.length l0_3) (hc0_3 : l0_3.length ≤ c0_3) (hr0_4 : Kd.C k53 w A0_4 l0_4.length l0_4) (hc0_4 : l0_4.length ≤ c0_4) (hr0_6 : Kd.C k29 w A0_6 l0_6.length l0_6) (hc0_6 : l0_6.length ≤ c0_6) (hr0_7 : Kd.C (Kd.int .i64) w A0_7 l0_7.length l0_7) (hc0_7 : l0_7.length ≤ c0_7) (hr0_8 : Kd.C k68 w A0_8 l0_8.length l0_8) (hc0_8 : l0_8.length ≤ c0_8) (hr1_3 : Kd.C k29 w A1_3 l1_3.length l1_3) (hc1_3 : l1_3.length ≤ c1_3) (hr1_4 : Kd.C k53 w A1_4 l1_4.length l1_4) (hc1_4 : l1_4.length ≤ c1_4) (hr1_6 : Kd.C k29 w A1_6 l1_6.length l1_6) (hc1_6 : l1_6.length ≤ c1_6) (hr1_7 : Kd.C (Kd.int .i64) w A1_7 l1_7.length l1_7) (hc1_7 : l1_7.length ≤ c1_7) (hr1_8 : Kd.C k68 w A1_8 l1_8.length l1_8) (hc1_8 : l1_8.length ≤ c1_8) (h : obs_Diff.f k a0_0 a0_1 a0_2 l0_3 l0_4 a0_5 l0_6 l0_7 l0_8 a1_0 a1_1 a1_2 l1_3 l1_4 a1_5 l1_6 l1_7 l1_8 = some r) :
    Calls Try.prog 35 #[.agg #[.int .i64 a0_0, .int .i64 a0_1, .int .i64 a0_2, .slice A0_3 l0_3.length c0_3, .slice A0_4 l0_4.length c0_4, .string a0_5, .slice A0_6 l0_6.length c0_6, .slice A0_7 l0_7.length c0_7, .slice A0_8 l0_8.length c0_8], .agg #[.int .i64 a1_0, .int .i64 a1_1, .int .i64 a1_2, .slice A1_3 l1_3.length c1_3, .slice A1_4 l1_4.length c1_4, .string a1_5, .slice A1_6 l1_6.length c1_6, .slice A1_7 l1_7.length c1_7, .slice A1_8 l1_8.length c1_8]] w fun e w' => e = .returned (.int .i64 r) ∧ Below w.heap.size w w' := by
  have hu58 := Try.underlying58
  have hu53 := Try.underlying53
  have hu81 := Try.underlying81
  unfold obs_Diff.f at h
  obtain ⟨t1, h1, h⟩ := Option.bind_eq_some_iff.mp h
  obtain ⟨t2, h2, h⟩ := Option.bind_eq_some_iff.mp h
  obtain ⟨t4, h4, h⟩ := Option.bind_eq_some_iff.mp h
  obtain ⟨t5, h5, h⟩ := Option.bind_eq_some_iff.mp h
  obtain ⟨t6, h6, h⟩ := Option.bind_eq_some_iff.mp h
  obtain ⟨t7, h7, h⟩ := Option.bind_eq_some_iff.mp h
  obtain rfl := Option.some.inj h
  clear h
  have C1 : Aside0 (∀ W, Below w.heap.size w W → Calls Try.prog 44 #[.agg #[.int .i64 a0_1, .int .i64 a0_2, .slice A0_3 l0_3.length c0_3], .agg #[.int .i64 a1_1, .int .i64 a1_2, .slice A1_3 l1_3.length c1_3]] W fun e w' => e = .returned (.bool t1) ∧ Below W.heap.size W w') :=
    ⟨fun W hb => obs_outcome.calls k _ _ _ _ _ _ _ _ _ _ _ W (Kd.C_below hr0_3 hb) hc0_3 (Kd.C_below hr1_3 hb) hc1_3 h1⟩
  have C2 : Aside0 (∀ W, Below w.heap.size w W → Calls Try.prog 45 #[.slice A0_4 l0_4.length c0_4, .slice A1_4 l1_4.length c1_4, .func (.func 44) #[] #[]] W fun e w' => e = .returned (.bool t2) ∧ Below W.heap.size W w') :=
    ⟨fun W hb => api_Outcome.calls k _ _ _ _ _ _ () _ W (Kd.C_below hr0_4 hb) hc0_4 (Kd.C_below hr1_4 hb) hc1_4 h2⟩
  have C4 : Aside0 (∀ W, Below w.heap.size w W → Calls Try.prog 46 #[.slice A0_6 l0_6.length c0_6, .slice A1_6 l1_6.length c1_6] W fun e w' => e = .returned (.bool t4) ∧ Below W.heap.size W w') :=
    ⟨fun W hb => (api_Val_46.calls k _ _ _ _ _ _ _ W (Kd.C_below hr0_6 hb) hc0_6 (Kd.C_below hr1_6 hb) hc1_6 h4).mono fun _ _ hh => ⟨hh.1, by first | exact hh.2 | exact hh.2.below⟩⟩
  have C5 : Aside0 (∀ W, Below w.heap.size w W → Calls Try.prog 47 #[.slice A0_7 l0_7.length c0_7, .slice A1_7 l1_7.length c1_7] W fun e w' => e = .returned (.bool t5) ∧ Below W.heap.size W w') :=
    ⟨fun W hb => (slices_Equal_int_int.calls k _ _ _ _ _ _ _ W (Kd.C_below hr0_7 hb) hc0_7 (Kd.C_below hr1_7 hb) hc1_7 h5).mono fun _ _ hh => ⟨hh.1, by first | exact hh.2 | exact hh.2.below⟩⟩
  have C6 : Aside0 (∀ W, Below w.heap.size w W → Calls Try.prog 48 #[.slice A0_8 l0_8.length c0_8, .slice A1_8 l1_8.length c1_8, .func (.func 49) #[] #[]] W fun e w' => e = .returned (.bool t6) ∧ Below W.heap.size W w') :=
    ⟨fun W hb => api_Heard.calls k _ _ _ _ _ _ () _ W (Kd.C_below hr0_8 hb) hc0_8 (Kd.C_below hr1_8 hb) hc1_8 h6⟩
  have H7 := Aside0.mk h7
  clear h1 h2 h4 h5 h6 h7 hr0_3 hc0_3 hr0_4 hc0_4 hr0_6 hc0_6 hr0_7 hc0_7 hr0_8 hc0_8 hr1_3 hc1_3 hr1_4 hc1_4 hr1_6 hc1_6 hr1_7 hc1_7 hr1_8 hc1_8
  have HB := Aside0.mk (Below.refl w.heap.size w)
  go_enter Try.func35, Try.ntmps35
  go_wp2_with (first | ((with_reducible refine gate_dst (N := 2) rfl ?_); refine box_event ?hg (N := 2) ?hd (cs := #[.int .i64 a0_0, .int .i64 a0_1, .int .i64 a0_2, .slice A0_3 l0_3.length c0_3, .slice A0_4 l0_4.length c0_4, .string a0_5, .slice A0_6 l0_6.length c0_6, .slice A0_7 l0_7.length c0_7, .slice A0_8 l0_8.length c0_8]) (t := 58) ?hr ?_; (case hd => rfl); (case hg => rfl); (case hr => first | (go_simp; done) | (go_simp; rfl)); intro ga hga wa hboxa hba; have BA := Aside0.mk hboxa; have HA := Aside0.mk hba; clear hga hboxa hba) | ((with_reducible refine gate_dst (N := 3) rfl ?_); refine box_event ?hg (N := 3) ?hd (cs := #[.int .i64 a1_0, .int .i64 a1_1, .int .i64 a1_2, .slice A1_3 l1_3.length c1_3, .slice A1_4 l1_4.length c1_4, .string a1_5, .slice A1_6 l1_6.length c1_6, .slice A1_7 l1_7.length c1_7, .slice A1_8 l1_8.length c1_8]) (t := 58) ?hr ?_; (case hd => rfl); (case hg => rfl); (case hr => first | (go_simp; done) | (go_simp; rfl)); intro gb hgb wb hboxb hbb; have BB := Aside0.mk hboxb; have BA2 := Aside0.mk (blk_below BA.out hbb); have HB2 := Aside0.mk (below_step HA.out hbb); clear hgb hboxb hbb))
  have hBw : Aside0 (Below w.heap.size w wb) := ⟨HB2.out⟩
  have hy : Aside0 (Below wb.heap.size wb wb) := ⟨Below.refl _ _⟩
  have x0_0 : ∀ W, Below wb.heap.size wb W → W.cell? ⟨ga, 0, none⟩ = some (.int .i64 a0_0) := fun W hb => pw_cell_below hb (blk_cell BA2.out 0)
  have x0_1 : ∀ W, Below wb.heap.size wb W → W.cell? ⟨ga, 1, none⟩ = some (.int .i64 a0_1) := fun W hb => pw_cell_below hb (blk_cell BA2.out 1)
  have x0_2 : ∀ W, Below wb.heap.size wb W → W.cell? ⟨ga, 2, none⟩ = some (.int .i64 a0_2) := fun W hb => pw_cell_below hb (blk_cell BA2.out 2)
  have x0_3 : ∀ W, Below wb.heap.size wb W → W.cell? ⟨ga, 3, none⟩ = some (.slice A0_3 l0_3.length c0_3) := fun W hb => pw_cell_below hb (blk_cell BA2.out 3)
  have x0_4 : ∀ W, Below wb.heap.size wb W → W.cell? ⟨ga, 4, none⟩ = some (.slice A0_4 l0_4.length c0_4) := fun W hb => pw_cell_below hb (blk_cell BA2.out 4)
  have x0_5 : ∀ W, Below wb.heap.size wb W → W.cell? ⟨ga, 5, none⟩ = some (.string a0_5) := fun W hb => pw_cell_below hb (blk_cell BA2.out 5)
  have x0_6 : ∀ W, Below wb.heap.size wb W → W.cell? ⟨ga, 6, none⟩ = some (.slice A0_6 l0_6.length c0_6) := fun W hb => pw_cell_below hb (blk_cell BA2.out 6)
  have x0_7 : ∀ W, Below wb.heap.size wb W → W.cell? ⟨ga, 7, none⟩ = some (.slice A0_7 l0_7.length c0_7) := fun W hb => pw_cell_below hb (blk_cell BA2.out 7)
  have x0_8 : ∀ W, Below wb.heap.size wb W → W.cell? ⟨ga, 8, none⟩ = some (.slice A0_8 l0_8.length c0_8) := fun W hb => pw_cell_below hb (blk_cell BA2.out 8)
  have x1_0 : ∀ W, Below wb.heap.size wb W → W.cell? ⟨gb, 0, none⟩ = some (.int .i64 a1_0) := fun W hb => pw_cell_below hb (blk_cell BB.out 0)
  have x1_1 : ∀ W, Below wb.heap.size wb W → W.cell? ⟨gb, 1, none⟩ = some (.int .i64 a1_1) := fun W hb => pw_cell_below hb (blk_cell BB.out 1)
  have x1_2 : ∀ W, Below wb.heap.size wb W → W.cell? ⟨gb, 2, none⟩ = some (.int .i64 a1_2) := fun W hb => pw_cell_below hb (blk_cell BB.out 2)
  have x1_3 : ∀ W, Below wb.heap.size wb W → W.cell? ⟨gb, 3, none⟩ = some (.slice A1_3 l1_3.length c1_3) := fun W hb => pw_cell_below hb (blk_cell BB.out 3)
  have x1_4 : ∀ W, Below wb.heap.size wb W → W.cell? ⟨gb, 4, none⟩ = some (.slice A1_4 l1_4.length c1_4) := fun W hb => pw_cell_below hb (blk_cell BB.out 4)
  have x1_5 : ∀ W, Below wb.heap.size wb W → W.cell? ⟨gb, 5, none⟩ = some (.string a1_5) := fun W hb => pw_cell_below hb (blk_cell BB.out 5)
  have x1_6 : ∀ W, Below wb.heap.size wb W → W.cell? ⟨gb, 6, none⟩ = some (.slice A1_6 l1_6.length c1_6) := fun W hb => pw_cell_below hb (blk_cell BB.out 6)
  have x1_7 : ∀ W, Below wb.heap.size wb W → W.cell? ⟨gb, 7, none⟩ = some (.slice A1_7 l1_7.length c1_7) := fun W hb => pw_cell_below hb (blk_cell BB.out 7)
  have x1_8 : ∀ W, Below wb.heap.size wb W → W.cell? ⟨gb, 8, none⟩ = some (.slice A1_8 l1_8.length c1_8) := fun W hb => pw_cell_below hb (blk_cell BB.out 8)
  go_region_held3 (fun w' => Below wb.heap.size wb w')
    (first
      | (with_reducible exact below_drew1 (Below.refl _ _))
      | (with_reducible exact below_drew1 (below_alloc (Below.refl _ _) _))
      | (with_reducible exact below_step (by assumption) hb)
      | (with_reducible exact below_alloc (by assumption) _)
      | (with_reducible exact below_alloc hy.out _)
      | (exact hz_set hqb.out hy.out _))
    (first
      | (go_at_call 44; refine (C1.out _ (below_step hBw.out (by assumption))).mono ?_; rintro e w' ⟨rfl, hb⟩; have hy0 := hy; have hy : Aside0 (Below wb.heap.size wb w') := ⟨below_step (by assumption) hb⟩; (first | (with_reducible have hq := hz_old hb (by assumption)) | (have hqb : Aside0 (wb.heap.size ≤ _) := ⟨hy0.out.size⟩; have hq := hz_new hb) | (have hqb : Aside0 (wb.heap.size ≤ _) := ⟨hy0.out.size⟩; have hq := hz_newd hb) | skip))
      | (go_at_call 45; refine (C2.out _ (below_step hBw.out (by assumption))).mono ?_; rintro e w' ⟨rfl, hb⟩; have hy0 := hy; have hy : Aside0 (Below wb.heap.size wb w') := ⟨below_step (by assumption) hb⟩; (first | (with_reducible have hq := hz_old hb (by assumption)) | (have hqb : Aside0 (wb.heap.size ≤ _) := ⟨hy0.out.size⟩; have hq := hz_new hb) | (have hqb : Aside0 (wb.heap.size ≤ _) := ⟨hy0.out.size⟩; have hq := hz_newd hb) | skip))
      | (go_at_call 46; refine (C4.out _ (below_step hBw.out (by assumption))).mono ?_; rintro e w' ⟨rfl, hb⟩; have hy0 := hy; have hy : Aside0 (Below wb.heap.size wb w') := ⟨below_step (by assumption) hb⟩; (first | (with_reducible have hq := hz_old hb (by assumption)) | (have hqb : Aside0 (wb.heap.size ≤ _) := ⟨hy0.out.size⟩; have hq := hz_new hb) | (have hqb : Aside0 (wb.heap.size ≤ _) := ⟨hy0.out.size⟩; have hq := hz_newd hb) | skip))
      | (go_at_call 47; refine (C5.out _ (below_step hBw.out (by assumption))).mono ?_; rintro e w' ⟨rfl, hb⟩; have hy0 := hy; have hy : Aside0 (Below wb.heap.size wb w') := ⟨below_step (by assumption) hb⟩; (first | (with_reducible have hq := hz_old hb (by assumption)) | (have hqb : Aside0 (wb.heap.size ≤ _) := ⟨hy0.out.size⟩; have hq := hz_new hb) | (have hqb : Aside0 (wb.heap.size ≤ _) := ⟨hy0.out.size⟩; have hq := hz_newd hb) | skip))
      | (go_at_call 48; refine (C6.out _ (below_step hBw.out (by assumption))).mono ?_; rintro e w' ⟨rfl, hb⟩; have hy0 := hy; have hy : Aside0 (Below wb.heap.size wb w') := ⟨below_step (by assumption) hb⟩; (first | (with_reducible have hq := hz_old hb (by assumption)) | (have hqb : Aside0 (wb.heap.size ≤ _) := ⟨hy0.out.size⟩; have hq := hz_new hb) | (have hqb : Aside0 (wb.heap.size ≤ _) := ⟨hy0.out.size⟩; have hq := hz_newd hb) | skip)))
  all_goals
    have hS : Below w.heap.size w _ := below_step hBw.out (by assumption)
    clear hy
    have HS := Aside0.mk hS
    clear hS
    go_wp2_with fail
    first
      | (refine (slices_Index_bool_bool.calls k _ _ [true, a0_0 == a1_0, t1, t2, a0_5.toList == a1_5.toList, t4, t5, t6] false t7 _ (C_bools [true, a0_0 == a1_0, t1, t2, a0_5.toList == a1_5.toList, t4, t5, t6] (by simp) (blk_new _ _)) (Nat.le_refl _) H7.out).mono ?_)
      | (refine (slices_Index_bool_bool.calls k _ _ [true, a0_0 == a1_0, t1, t2, a0_5.toList == a1_5.toList, t4, t5, t6] false t7 _ (C_bools [true, a0_0 == a1_0, t1, t2, a0_5.toList == a1_5.toList, t4, t5, t6] (by simp) (setRow_heap _ _ _ _ _ _ (HZ.h (by assumption)))) (Nat.le_refl _) H7.out).mono ?_)
    rintro e w2 ⟨rfl, hd⟩
    have HD := Aside0.mk (below_step HS.out hd.below)
    clear hd
    go_wp2_with fail
    all_goals go_ret
    all_goals exact ⟨by first | (simp [*, mx]; done) | (simp [*, mx] <;> split <;> omega) | (simp [*, mx]; omega), HD.out⟩

end Go.Proofs.Ytddfoogbakiojaa.F
