/-
  What Trace returns may be written.
-/
import Derived.Test.YtmofdpkddimmlaaETraceQ
import Derived.Test.YtmofdpkddimmlaaETraceSpoil
namespace Go.Proofs.Ytmofdpkddimmlaa.ETrace
open Go Go.RowKit Go.Proofs.Ytmofdpkddimmlaa.F Go.Proofs.Ytmofdpkddimmlaa.PureVals Go.Proofs.YtmofdpkddimmlaaW.Hand Go.Proofs.YtmofdpkddimmlaaW.PrintWords Go.Proofs.YtmofdpkddimmlaaW.PrintLast Go.Proofs.YtmofdpkddimmlaaW.PrintMore
set_option linter.unusedVariables false
set_option linter.unusedSimpArgs false
theorem R_low {W : World} {b : Nat} {ok : Nat → Prop} {v : Value} {xs : List S56} (h : k56.R 56 W b ok v xs) : k56.R 56 W 0 (fun _ => True) v xs := by
  obtain ⟨h0, inner, ho, hr⟩ := Kd.R_mono h (ok' := fun _ => True) (fun _ _ => trivial)
  refine ⟨fun _ _ => trivial, inner, ?_, hr.imp_ (fun _ _ hp => by rw [k56_openM hp]; exact k56_mkM _ _ _ _)⟩
  obtain ⟨h1, h2⟩ := ho
  refine ⟨h1, ?_⟩
  rcases h2 with h2 | ⟨g, cap, cur, e, hg, r⟩
  · exact .inl h2
  · exact .inr ⟨g, cap, cur, e, Nat.zero_le _, r⟩
/-- What was heard, its arguments in a row of their own. -/
def k52o : Kd Hd where
  sz := 2
  E := []
  K := fun w x cs => ∃ v, cs = [.int .i64 x.fn, v] ∧ k56.R 56 w 0 (fun _ => True) v x.args
  M := fun _ _ _ _ _ => False
  K_len := by
    rintro w x cs ⟨v, rfl, _⟩
    rfl
  K_one := by
    rintro w x cs ⟨v, rfl, h⟩ u hu
    obtain ⟨A, c, rfl⟩ := Kd.R_slice h
    simp at hu
    rcases hu with rfl | rfl <;> rfl
  K_below := by
    rintro w w1 x cs hb ⟨v, rfl, h⟩
    exact ⟨v, rfl, Kd.R_below h hb⟩
  K_of_M := fun h => h.elim
  M_mono := fun _ h => h.elim
  M_bound := fun h => h.elim
  M_move := fun _ h => h.elim
  M_lower := fun _ h => h.elim
theorem FK_52o {W : World} {f : Int} {vs : List S56} {v : Value} {b : Nat} {ok : Nat → Prop} (h : k56.R 56 W b ok v vs) : Kd.FK k52o W ok ⟨f, vs⟩ [.int .i64 f, v] := fun W' hW => ⟨v, rfl, R_low (Kd.R_step h hW)⟩
theorem k52_of_o {W : World} {x : Hd} {cs : List Value} (h : k52o.K W x cs) : k52.K W x cs := by
  obtain ⟨v, rfl, h⟩ := h
  obtain ⟨A, c, rfl, hl, hC⟩ := Kd.R_reads h
  exact k52_mk hC hl
theorem N_of_o {W : World} {b : Nat} {ok : Nat → Prop} {v : Value} {hs : List Hd} (h : Kd.N k52o 52 W b ok v hs) : Kd.N k52 52 W b ok v hs := by
  obtain ⟨h0, rows, hl, hR, hf⟩ := h
  exact ⟨h0, rows, hl, hR, fun j x c hx hc W' hW => k52_of_o (hf j x c hx hc W' hW)⟩
theorem own_at {w : World} {b : Nat} {ok : Nat → Prop} {A : Option Addr} {c : Nat} {hs : List Hd} (h : Kd.N k52o 52 w b ok (.slice A hs.length c) hs) (i : Nat) (hi : i < hs.length) :
    ∃ ga v, A = some ⟨ga, 0, none⟩ ∧ w.cell? ⟨ga, i * 2 + 1, none⟩ = some v ∧ k56.R 56 w 0 (fun _ => True) v (rdH hs i).args ∧ ok ga ∧ (∀ k, v.ownBlock = some k → k ≠ ga) := by
  obtain ⟨ga, cap, e, _, _, _⟩ := Kd.N_form h (by omega)
  injection e with e1
  subst e1
  obtain ⟨cs, _, hK, hcc, _⟩ := Kd.N_elem h ⟨0, []⟩ (i : Int) (by omega) (by omega)
  have hz : hs.getD ((i : Int)).toNat ⟨0, []⟩ = rdH hs i := by simp [rdH]
  rw [hz] at hK
  obtain ⟨v, rfl, hR⟩ := Kd.FK_now hK
  refine ⟨ga, v, rfl, hcc 1 _ rfl, hR, h.1 ga (by simp [Value.ownBlock]), fun k hk e => ?_⟩
  subst e
  obtain ⟨c1, e1⟩ := Kd.N_typed h k (by simp [Value.ownBlock])
  obtain ⟨_, inner, ho, _⟩ := hR
  obtain ⟨c2, e2⟩ := own_typed ho k hk
  rw [e1] at e2
  simp at e2
def RelTrO (w : World) (hs : List Hd) (n : Nat) (v3 v13 : Value) (wr : World) : Prop := ∃ i : Nat, i + n = hs.length ∧ v13 = .int .i64 i ∧ Kd.N k52o 52 wr w.heap.size (fun k => w.heap.size ≤ k) v3 (hs.take i) ∧ Below w.heap.size w wr
set_option maxHeartbeats 4000000 in
set_option maxRecDepth 100000 in
theorem trace_callsO {w : World} {g : Nat} {S : Nat → Prop} {an : List (List S56)} {hs : List Hd} (h : Hs w g S an hs) (hlen : hs.length ≤ 1000) (hargs : ∀ x, x ∈ hs → x.args.length * 16 ≤ 140737488351232) :
    Calls Try.prog 22 #[.pointer (some ⟨g, 0, none⟩)] w fun e w' => ∃ A c, e = .returned (.slice A hs.length c) ∧ Kd.N k52o 52 w' w.heap.size (fun k => w.heap.size ≤ k) (.slice A hs.length c) hs ∧ Below w.heap.size w w' := by
  have hu52 := Try.underlying52
  have hu46 := Try.underlying46
  have hu24 := Try.underlying24
  have hu110 := Try.underlying110
  obtain ⟨A, cA, u, hg, hcA, hS, hF, hN⟩ := h
  obtain ⟨Au, cu, rfl⟩ := Kd.N_slice hN
  have HN := Aside0.mk hN
  have HL := Aside0.mk hlen
  have HAR := Aside0.mk hargs
  have y1 : w.cell? ⟨g, 1, none⟩ = some (.slice Au hs.length cu) := blk_cell hg 1
  have hm : hs.length ≤ 9223372036854775807 := by omega
  clear hg hcA hS hF hN hlen hargs
  go_enter Try.func22, Try.ntmps22
  go_wp2
  go_loopg [3, 13] hs.length (fun n v3 v13 wr => RelTrO w hs n v3 v13 wr)
  case atStart => exact ⟨0, by omega, rfl, Kd.N_nil _ _ _ _ _, by first | exact Below.refl _ _ | exact below_drew (Below.refl _ _)⟩
  case round =>
    obtain ⟨i, hi, rfl, hN3, hb⟩ := hrel
    have R3 := Aside0.mk hN3
    have HB := Aside0.mk hb
    have I3 := Aside0.mk hi
    clear hN3 hb hi y1
    by_cases hlt : i < hs.length
    · obtain ⟨ga, B, cb, rfl, e1, e2, hcb, hFx⟩ := heard_at HN.out i hlt
      have dl : decide (i < hs.length) = true := by simpa using hlt
      have HLT := Aside0.mk hlt
      have HCB := Aside0.mk hcb
      have HFX := Aside0.mk hFx
      have z1 : wr.cell? ⟨ga, i * 2, none⟩ = some (.int .i64 (rdH hs i).fn) := pw_cell_below HB.out e1
      have z2 : wr.cell? ⟨ga, i * 2 + 1, none⟩ = some (.slice B (rdH hs i).args.length cb) := pw_cell_below HB.out e2
      obtain ⟨A3, c3, hv3⟩ := Kd.N_slice R3.out
      rw [show (hs.take i).length = i by simp; omega] at hv3
      subst hv3
      clear e1 e2 hcb hFx
      go_wp2_with (first
        | ((with_reducible refine gate_dst (N := 5) rfl ?_); refine box_event ?hg (N := 5) ?hd (cs := #[.int .i64 0, .slice none 0 0]) (t := 52) ?hr ?_; (case hd => rfl); (case hg => rfl); (case hr => first | (go_simp; done) | (go_simp; rfl)); intro g5 hgg5 w2 hA hb; have GL := Aside0.mk (show wr.heap.size ≤ g5 by rw [hgg5]; exact Nat.le_refl _); have HB2 := Aside0.mk (below_step HB.out hb); have HBX := Aside0.mk hb; have B5 := Aside0.mk hA; clear hA hb hgg5)
        | ((with_reducible refine gate_store (p := 5) rfl ?_); refine storeRow_event (g := g5) rfl rfl rfl (cs := #[.int .i64 (rdH hs i).fn, .slice B (rdH hs i).args.length cb]) rfl rfl B5.out (by kernel_rfl) rfl (by simp [Value.oneCell']) ?_; intro w3 hA hb ho hs'; have HB3 := Aside0.mk (hb _ _ (Nat.le_trans HB.out.size GL.out) HB2.out); have q1 : w3.cell? ⟨g5, 0, none⟩ = some (.int .i64 (rdH hs i).fn) := blk_cell hA 0; have q2 : w3.cell? ⟨g5, 1, none⟩ = some (.slice B (rdH hs i).args.length cb) := blk_cell hA 1; have R5 := Aside0.mk (Kd.N_mono (Kd.N_step (Kd.N_bound R3.out) (w1 := w3) (fun k hk hlt => (ho k (Nat.ne_of_lt (Nat.lt_of_lt_of_le hk.2 GL.out))).trans (HBX.out.block k hk.2))) (fun k hk => hk.1)); have NS5 : Aside0 (some g5 ≠ (Value.slice A3 i c3).ownBlock) := ⟨fun e => by have := Kd.N_lt R3.out g5 e.symm; have := GL.out; omega⟩; clear hA hb ho hs' B5))
      refine start_ (n := 10) (S := fun w' => w'.cell? ⟨g5, 0, none⟩ = some (.int .i64 (rdH hs i).fn) ∧ w'.cell? ⟨g5, 1, none⟩ = some (.slice B (rdH hs i).args.length cb)) (ds := []) #[false, false, false, false, false, false, false, false, false, false] (by kernel_rfl) rfl rfl ⟨q1, q2⟩ (fun hHeld => ?_)
      refine pure_ (i := 0) (N := some 17) (v := ?_) (a' := ?_) #[true, false, false, false, false, false, false, false, false, false] rfl rfl (by kernel_rfl) (fun _ _ _ h => h) (Or.inl ⟨by rfl, ?_⟩) ?_ ?_
      rotate_left
      · intro w'
        go_simp
        with_reducible rfl
      rotate_left
      · simp only [Act.put, List.setIfInBounds_toArray, List.set_cons_zero, List.set_cons_succ, i64_w, i32_w]
        rfl
      refine pure_ (i := 1) (N := some 18) (v := ?_) (a' := ?_) #[true, true, false, false, false, false, false, false, false, false] rfl rfl (by kernel_rfl) (fun _ _ _ h => h) (Or.inl ⟨by rfl, ?_⟩) ?_ ?_
      rotate_left
      · intro w'
        go_simp
        with_reducible rfl
      rotate_left
      · simp only [Act.put, List.setIfInBounds_toArray, List.set_cons_zero, List.set_cons_succ, i64_w, i32_w]
        rfl
      refine pure_ (i := 3) (N := some 20) (v := ?_) (a' := ?_) #[true, true, false, true, false, false, false, false, false, false] rfl rfl (by kernel_rfl) (fun _ _ _ h => h) (Or.inl ⟨by rfl, ?_⟩) ?_ ?_
      rotate_left
      · intro w'
        go_simp
        with_reducible rfl
      rotate_left
      · simp only [Act.put, List.setIfInBounds_toArray, List.set_cons_zero, List.set_cons_succ, i64_w, i32_w]
        rfl
      refine take_ (i := 2) (N := some 19) (v := ?_) (a' := ?_) #[true, true, true, true, false, false, false, false, false, false] rfl rfl (by kernel_rfl) (fun _ _ _ h => h) (Or.inl ⟨by rfl, ?_⟩) hHeld ?_ ?_
      rotate_left
      · rintro w' ⟨s0, s1⟩
        go_simp
        with_reducible rfl
      rotate_left
      · simp only [Act.put, List.setIfInBounds_toArray, List.set_cons_zero, List.set_cons_succ, i64_w, i32_w]
        rfl
      refine take_ (i := 4) (N := some 21) (v := ?_) (a' := ?_) #[true, true, true, true, true, false, false, false, false, false] rfl rfl (by kernel_rfl) (fun _ _ _ h => h) (Or.inl ⟨by rfl, ?_⟩) hHeld ?_ ?_
      rotate_left
      · rintro w' ⟨s0, s1⟩
        go_simp
        with_reducible rfl
      rotate_left
      · simp only [Act.put, List.setIfInBounds_toArray, List.set_cons_zero, List.set_cons_succ, i64_w, i32_w]
        rfl
      refine one_ (i := 5) (N := some 22) #[true, true, true, true, true, true, false, false, false, false] rfl rfl (by kernel_rfl) (by decide) (fun K hK => ?_)
      refine goes_ Try.func48 (by kernel_rfl) rfl #[.slice B (rdH hs i).args.length cb] (by rfl) rfl rfl (by simp only [List.map_toArray, List.map_cons, List.map_nil]; rfl) ?_
      with_reducible refine (clone_calls (Kd.F_now (Kd.F_below HFX.out (below_drew HB3.out))) (HAR.out _ (rdH_mem hs i HLT.out))).mono ?_
      rintro e w4 ⟨A2, c2, rfl, hR, hb⟩
      refine ⟨_, rfl, ?_⟩
      have R4 := Aside0.mk (Kd.R_mono hR (fun k hk => (show w.heap.size ≤ k ∧ some k ≠ (Value.slice A3 i c3).ownBlock from ⟨Nat.le_trans HB3.out.size hk, fun e => by have := Kd.N_lt R5.out k e.symm; have := (show w3.heap.size ≤ k from hk); omega⟩)))
      have HB4 := Aside0.mk (below_step (below_drew HB3.out) hb)
      have HBY : Aside0 (Below w3.heap.size w3 w4) := ⟨below_step (below_drew (Below.refl _ _)) hb⟩
      have R6 := Aside0.mk (Kd.N_below R5.out HBY.out)
      clear hR hb R5
      refine hK.out _ _ ⟨pw_cell_below HBY.out q1, pw_cell_below HBY.out q2⟩ (fun hHeld => ?_)
      clear hK K
      refine norm_ (a' := ?_) ?_ ?_
      rotate_left
      · show Act.put _ (some 22) _ = _
        simp only [Act.put, List.setIfInBounds_toArray, List.set_cons_zero, List.set_cons_succ, i64_w, i32_w]
        rfl
      refine pure_ (i := 6) (N := some 23) (v := ?_) (a' := ?_) #[true, true, true, true, true, true, true, false, false, false] rfl rfl (by kernel_rfl) (fun _ _ _ h => h) (Or.inl ⟨by rfl, ?_⟩) ?_ ?_
      rotate_left
      · intro w'
        go_simp
        with_reducible rfl
      rotate_left
      · simp only [Act.put, List.setIfInBounds_toArray, List.set_cons_zero, List.set_cons_succ, i64_w, i32_w]
        rfl
      refine one_ (i := 7) (N := some 24) #[true, true, true, true, true, true, true, true, false, false] rfl rfl (by kernel_rfl) (by decide) (fun K hK => ?_)
      refine lit_step ?hw (N := 24) ?hd (cs := #[.int .i64 (rdH hs i).fn, .slice A2 (rdH hs i).args.length c2]) (t := 52) (n := 1) ?hr ?_
      case hw => rfl
      case hd => rfl
      case hr => first | (go_simp; done) | (go_simp; rfl)
      intro gl hgl w5 hA hb
      have BL := Aside0.mk hA
      have R7 := Aside0.mk (Kd.R_below R4.out hb)
      have R8 := Aside0.mk (Kd.N_below R6.out hb)
      have HB5 := Aside0.mk (below_step HB4.out hb)
      have HBZ := Aside0.mk (below_step HBY.out hb)
      have GLL : Aside0 (w4.heap.size ≤ gl) := ⟨by rw [hgl]; exact Nat.le_refl _⟩
      have NSL : Aside0 (some gl ≠ (Value.slice A3 i c3).ownBlock) := ⟨fun e => by have := Kd.N_lt R6.out gl e.symm; have := GLL.out; omega⟩
      clear hA hb hgl R4 R6
      refine hK.out _ _ ⟨pw_cell_below HBZ.out q1, pw_cell_below HBZ.out q2⟩ (fun hHeld => ?_)
      clear hK K
      refine norm_ (a' := ?_) ?_ ?_
      rotate_left
      · show Act.put _ (some 24) _ = _
        simp only [Act.put, List.setIfInBounds_toArray, List.set_cons_zero, List.set_cons_succ, i64_w, i32_w]
        rfl
      refine one_ (i := 8) (N := some 25) #[true, true, true, true, true, true, true, true, true, false] rfl rfl (by kernel_rfl) (by decide) (fun K hK => ?_)
      refine Kd.N_append_rows_step k52o (w0 := w) (W := w5) w.heap.size ?hw (.tmp 17) (.tmp 24) 46 52 (.agg #[.int .i64 0, .slice none 0 0]) 32 ?ho hu46 (by kernel_rfl) rfl (by decide) (by decide) (.slice A3 i c3) (hs.take i) [rdH hs i] (some ⟨gl, 0, none⟩) 1 1 (fun k => w.heap.size ≤ k) (fun k => w.heap.size ≤ k ∧ some k ≠ (Value.slice A3 i c3).ownBlock) ?h1 ?h2 R8.out (F_one BL.out ⟨Nat.le_trans HB4.out.size GLL.out, NSL.out⟩ (FK_52o R7.out)) ?h4 ?h3 HB5.out HB5.out.size (by have := HL.out; have := HLT.out; simp; omega) ?_
      case hw => rfl
      case ho => rfl
      case h1 => rfl
      case h2 => rfl
      case h4 => exact fun k hk => hk
      case h3 => exact fun k hk => Nat.le_trans HB5.out.size hk
      intro v6 w6 hN hb hgr hat
      have RZ := Aside0.mk hN
      have HBQ := Aside0.mk hb
      have s0 : w6.cell? ⟨g5, 0, none⟩ = some (.int .i64 (rdH hs i).fn) := cell_grown hgr (pw_cell_below HBZ.out q1) NS5.out
      have s1 : w6.cell? ⟨g5, 1, none⟩ = some (.slice B (rdH hs i).args.length cb) := cell_grown hgr (pw_cell_below HBZ.out q2) NS5.out
      clear hN hb hgr hat
      refine hK.out _ _ ⟨s0, s1⟩ (fun hHeld => ?_)
      clear hK K
      refine norm_ (a' := ?_) ?_ ?_
      rotate_left
      · show Act.put _ (some 25) _ = _
        simp only [Act.put, List.setIfInBounds_toArray, List.set_cons_zero, List.set_cons_succ, i64_w, i32_w]
        rfl
      refine pure_ (i := 9) (N := some 3) (v := ?_) (a' := ?_) #[true, true, true, true, true, true, true, true, true, true] rfl rfl (by kernel_rfl) (fun _ _ _ h => h) (Or.inl ⟨by rfl, ?_⟩) ?_ ?_
      rotate_left
      · intro w'
        go_simp
        with_reducible rfl
      rotate_left
      · simp only [Act.put, List.setIfInBounds_toArray, List.set_cons_zero, List.set_cons_succ, i64_w, i32_w]
        rfl
      refine done_ (by kernel_rfl) ?_

      go_wp2
      go_roundg (hs.length - (i + 1))
      case measure => have := I3.out; have := HLT.out; omega
      case rel => exact ⟨i + 1, by have := HLT.out; omega, by go_num, by have := RZ.out; rw [← take_succ_H hs i HLT.out]; exact this, HBQ.out⟩
    · have dl : decide (i < hs.length) = false := by simpa using hlt
      have hin : i = hs.length := by have := I3.out; omega
      have HIN := Aside0.mk hin
      clear hin hlt
      obtain ⟨A3, c3, hv3⟩ := Kd.N_slice R3.out
      rw [show (hs.take i).length = hs.length by simp [HIN.out]] at hv3
      subst hv3
      go_wp2
      go_ret
      have h3 := R3.out
      rw [List.take_of_length_le (Nat.le_of_eq HIN.out.symm)] at h3
      exact ⟨A3, c3, rfl, h3, HB.out⟩

end Go.Proofs.Ytmofdpkddimmlaa.ETrace
