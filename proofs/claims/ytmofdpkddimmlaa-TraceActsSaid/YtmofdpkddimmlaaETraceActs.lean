/-
  peloruslaw11.TraceActs answers true.
-/
import Derived.Test.YtmofdpkddimmlaaETraceN
namespace Go.Proofs.Ytmofdpkddimmlaa.ETrace
open Go Go.RowKit Go.Proofs.Ytmofdpkddimmlaa.F Go.Proofs.Ytmofdpkddimmlaa.PureVals Go.Proofs.YtmofdpkddimmlaaW.Hand Go.Proofs.YtmofdpkddimmlaaW.PrintWords Go.Proofs.YtmofdpkddimmlaaW.PrintLast Go.Proofs.YtmofdpkddimmlaaW.PrintMore
set_option linter.unusedVariables false
set_option linter.unusedSimpArgs false
set_option maxHeartbeats 4000000 in
set_option maxRecDepth 100000 in
theorem acts_calls {w : World} {A B : Option Addr} {c d : Nat} {an : List (List S56)} {acts : List Ac} (h : k27.C w A an.length an) (hlen : an.length * 24 ≤ 140737488351232) (hargs : ∀ x, x ∈ an → x.length * 16 ≤ 140737488351232) (hacts : kAc.C w B acts.length acts) (hact : ∀ x, x ∈ acts → x.args.length * 16 ≤ 140737488351232) :
    Calls Try.prog 3 #[.slice A an.length c, .slice B acts.length d] w fun e w' => e = .returned (.bool true) ∧ Below w.heap.size w w' := by
  have hu27 := Try.underlying27
  have hu22 := Try.underlying22
  have hu24 := Try.underlying24
  have hu38 := Try.underlying38
  have HA := Aside0.mk h
  have HL := Aside0.mk hlen
  have HAR := Aside0.mk hargs
  have hm : an.length ≤ 9223372036854775807 := by omega
  have HC := Aside0.mk hacts
  have HACT := Aside0.mk hact
  have hmm : acts.length ≤ 9223372036854775807 := Kd.C_max hacts
  clear h hlen hargs hacts hact
  go_enter Try.func3, Try.ntmps3
  go_wp2
  go_loopg [5, 6] an.length (fun n v5 v6 wr => RelL w an n v5 v6 wr)
  case atStart => exact ⟨0, [], by omega, rfl, by simp, by simp, by simp, Kd.N_nil _ _ _ _ _, by first | exact Below.refl _ _ | exact below_drew (Below.refl _ _)⟩
  case round =>
    obtain ⟨i, ls, hi, rfl, hv, hnd, hin, hN, hb⟩ := hrel
    have I3 := Aside0.mk hi
    have HB := Aside0.mk hb
    have R3 := Aside0.mk hN
    have HV := Aside0.mk hv
    have HND := Aside0.mk hnd
    have HIN := Aside0.mk hin
    have hll : ls.length = i := by have := congrArg List.length hv; simp at this; omega
    obtain ⟨A3, c3, hv3⟩ := Kd.N_slice hN
    rw [hll] at hv3
    subst hv3
    have HLL := Aside0.mk hll
    clear hi hb hN hv hnd hin hll
    by_cases hlt : i < an.length

    · obtain ⟨ad, Bx, cb, rfl, e1, hcb, hCx⟩ := answer_at HA.out i hlt
      have dl : decide (i < an.length) = true := by simpa using hlt
      have HLT := Aside0.mk hlt
      have CX := Aside0.mk hCx
      have HCB := Aside0.mk hcb
      have z1 : wr.cell? (ad.add i) = some (.slice Bx (rdA an i).length cb) := pw_cell_below HB.out e1
      clear e1 hcb hCx
      go_wp2_with (first
        | (go_at_call 12; (with_reducible refine (lent_calls (Kd.C_below CX.out HB.out) HCB.out (HAR.out _ (rdA_mem an i HLT.out))).mono ?_); rintro e w2 ⟨g, cap, rfl, hcap, hg1, hg2, hR, hb⟩; have HCAP := Aside0.mk hcap; have G1 := Aside0.mk hg1; have G2 := Aside0.mk hg2; have RL := Aside0.mk hR; have HB2 := Aside0.mk (below_step HB.out hb); have R4 := Aside0.mk (Kd.N_below R3.out hb); have S2 := Aside0.mk hb.size; clear hcap hg1 hg2 hR hb)
        | ((with_reducible refine gate_dst (N := 33) rfl ?_); refine lit_event ?hg (N := 33) ?hd (cs := #[.slice (some ⟨g, 0, none⟩) (rdA an i).length cap]) (t := 27) (n := 1) ?hr ?_; (case hd => rfl); (case hg => rfl); (case hr => first | (go_simp; done) | (go_simp; rfl)); intro lb hglb w3 hA hb; have B3 := Aside0.mk hA; have RM := Aside0.mk (Kd.R_below RL.out hb); have HB3 := Aside0.mk (below_step HB2.out hb); have R5 := Aside0.mk (Kd.N_below R4.out hb); have LB := Aside0.mk (show w2.heap.size ≤ lb by rw [hglb]; exact Nat.le_refl _); have S3 := Aside0.mk hb.size; clear hA hb hglb R4 RL HB2)
        | ((with_reducible refine gate_dst (N := 34) rfl ?_); refine Kd.N_append_rows kLent (w0 := w) w.heap.size rfl (.tmp 25) (.tmp 33) 22 27 (.agg #[.slice none 0 0]) 24 rfl hu22 (by kernel_rfl) rfl (by decide) (by decide) (.slice A3 i c3) ls [(⟨rdA an i, g⟩ : Ln)] (some ⟨lb, 0, none⟩) 1 1 (fun j => w.heap.size ≤ j) (fun j => w.heap.size ≤ j ∧ some j ≠ (Value.slice A3 i c3).ownBlock) ?h1 ?h2 R5.out (F_one B3.out ⟨Nat.le_trans HB.out.size (Nat.le_trans S2.out LB.out), fun e => by have := Kd.N_lt R3.out lb e.symm; have := LB.out; have := S2.out; omega⟩ (FK_lent HCAP.out RM.out ⟨Nat.le_trans HB.out.size G1.out, fun e => by have := Kd.N_lt R3.out g e.symm; have := G1.out; omega⟩)) (fun _ hk => hk) (fun _ hk => Nat.le_trans HB3.out.size hk) HB3.out HB3.out.size (by have := HL.out; have := HLT.out; have := HLL.out; omega) ?_; (case h1 => first | rfl | (simp; done)); (case h2 => rfl); intro v6 w4 hN hb hgr _; have RZ := Aside0.mk hN; have HBZ := Aside0.mk hb; have S4 := Aside0.mk hgr.size; clear hN hb hgr))
      go_roundg (an.length - (i + 1))
      case measure => have := I3.out; have := HLT.out; omega
      case rel =>
        refine ⟨i + 1, ls ++ [⟨rdA an i, g⟩], by have := HLT.out; omega, by go_num, ?_, ?_, ?_, RZ.out, HBZ.out⟩
        · rw [List.map_append, HV.out]
          exact take_succ_A an i HLT.out
        · rw [List.map_append, List.nodup_append]
          refine ⟨HND.out, by simp, fun a ha b hb => ?_⟩
          obtain ⟨x, hx, rfl⟩ := List.mem_map.1 ha
          have h1 := (HIN.out x hx).2
          have h2 := G1.out
          have h3 : b = g := by simpa using hb
          omega
        · intro x hx
          rcases List.mem_append.1 hx with hx | hx
          · have h1 := HIN.out x hx
            have h2 := S2.out
            have h3 := S3.out
            have h4 := S4.out
            exact ⟨h1.1, by omega⟩
          · obtain rfl : x = ⟨rdA an i, g⟩ := by simpa using hx
            have h1 := G1.out
            have h2 := G2.out
            have h3 := HB.out.size
            have h4 := S3.out
            have h5 := S4.out
            exact ⟨by simp; omega, by simp; omega⟩

    · have dl : decide (i < an.length) = false := by simpa using hlt
      obtain rfl : i = an.length := by have := I3.out; omega
      have hv : ls.map Ln.vals = an := by have := HV.out; rwa [List.take_length] at this
      have CN := Aside0.mk (show k27.C wr A3 an.length an by
        have := C_of_lent (Kd.N_reads' R3.out).2.2
        rwa [HLL.out, hv] at this)
      clear hlt I3 HV
      go_wp2_with (first
        | (go_at_call 13; (with_reducible refine (new_calls CN.out HL.out HAR.out).mono ?_); rintro e w1 ⟨g, rfl, hh, hb⟩; have HH := Aside0.mk hh; have HB1 := Aside0.mk hb; clear hh hb)
        | (go_at_call 14; (with_reducible refine (newR_calls (Kd.C_below HA.out (below_step HB.out HB1.out)) HL.out HAR.out).mono ?_); rintro e w2 ⟨gr, rfl, hh, hb⟩; have TW := Aside0.mk (Tw.make HH.out HB1.out hh hb HB.out); have HB2 := Aside0.mk (below_step HB1.out hb); clear hh hb HH HB1 CN))
      have N3 := Aside0.mk (fun j hj => lent_at HLL.out R3.out hv j hj)
      obtain ⟨W, hW⟩ : ∃ W, W = wr := ⟨wr, rfl⟩
      subst hW
      go_loopg [9] an.length (fun n v9 wr => RelK w W g gr an ls n v9 wr)
      case atStart => exact ⟨0, by omega, rfl, TW.out, HB2.out.size, fun k hk _ => HB2.out.block k hk⟩
      case round =>
        obtain ⟨i, hi, rfl, hT, hsz, hkeep⟩ := hrel
        have I4 := Aside0.mk hi
        have T4 := Aside0.mk hT
        have SZ := Aside0.mk hsz
        have KE := Aside0.mk hkeep
        clear hi hT hsz hkeep TW
        by_cases hlt : i < an.length
        · obtain ⟨ga, gb, cb, rfl, hls, e1, hcb, hR, hga, hgb, hcs⟩ := N3.out i hlt
          obtain ⟨ad, Bx, cx, rfl, e2, hcx, hCx⟩ := answer_at HA.out i hlt
          have dl : decide (i < an.length) = true := by simpa using hlt
          have HLT := Aside0.mk hlt
          have ka : wr.heap[ga]? = W.heap[ga]? := KE.out ga hga (fun x hx e => by
            obtain ⟨j, hj, hx⟩ := take_mem hx
            obtain ⟨ga', gb', cb', _, hls', _, _, hR', _, _, _⟩ := N3.out j (by omega)
            obtain rfl := Option.some.inj (hx.symm.trans hls')
            obtain ⟨_, inner, ho, _⟩ := hR'
            obtain ⟨c2, e4⟩ := own_typed ho gb' (by simp [Value.ownBlock])
            obtain ⟨c1, e3⟩ := hcs
            rw [show gb' = ga from e] at e4
            rw [e3] at e4
            simp at e4)
          have kb : wr.heap[gb]? = W.heap[gb]? := KE.out gb hgb (fun x hx e => by
            obtain ⟨j, hj, hx⟩ := take_mem hx
            exact nodup_blk HND.out hx hls (by omega) e)
          obtain ⟨cs, hcs⟩ := hcs
          obtain ⟨cb', e5, _, hR5⟩ := kLent_keep (x := ⟨rdA an i, gb⟩) ⟨cb, rfl, hcb, hR⟩ kb
          obtain rfl : cb = cb' := by simpa using e5
          have z1 : wr.cell? ⟨ga, i, none⟩ = some (.slice (some ⟨gb, 0, none⟩) (rdA an i).length cb) := (blk_cell (ka.trans hcs) i).trans ((blk_cell hcs i).symm.trans e1)
          have z2 : wr.cell? (ad.add i) = some (.slice Bx (rdA an i).length cx) := pw_cell_below T4.out.all e2
          have KR := Aside0.mk (show k56.C wr (some ⟨gb, 0, none⟩) ((rdA an i).length + 2) (rdA an i ++ zz) by have := (Kd.R_reads' hR5).2.2; simpa [zz] using this)
          have KC := Aside0.mk (Kd.C_below hCx T4.out.all)
          have HCB := Aside0.mk hcb
          have HCX := Aside0.mk hcx
          have HGB := Aside0.mk hgb
          have HLS := Aside0.mk hls
          have HSP := Aside0.mk (spoils_lent hR5)
          have HLO := Aside0.mk (HIN.out _ (List.mem_of_getElem? hls)).1
          have HLM := Aside0.mk (show (rdA an i).length ≤ 9223372036854775807 from Kd.C_max hCx)
          clear e1 e2 e5 hR hR5 hCx hcb hcx hgb hls hcs ka kb hga
          go_wp2_with fail
          refine start_ (n := 12) (S := fun w' => w'.cell? ⟨ga, i, none⟩ = some (.slice (some ⟨gb, 0, none⟩) (rdA an i).length cb) ∧ w'.cell? (ad.add i) = some (.slice Bx (rdA an i).length cx)) (ds := []) #[false, false, false, false, false, false, false, false, false, false, false, false] (by kernel_rfl) rfl rfl ⟨z1, z2⟩ (fun hHeld => ?_)
          refine pure_ (i := 0) (N := some 45) (v := ?_) (a' := ?_) #[true, false, false, false, false, false, false, false, false, false, false, false] rfl rfl (by kernel_rfl) (fun _ _ _ h => h) (Or.inl ⟨by rfl, ?_⟩) ?_ ?_
          rotate_left
          · intro w'
            go_simp
            with_reducible rfl
          rotate_left
          · simp only [Act.put, List.setIfInBounds_toArray, List.set_cons_zero, List.set_cons_succ, i64_w, i32_w]
            rfl
          refine pure_ (i := 1) (N := some 46) (v := ?_) (a' := ?_) #[true, true, false, false, false, false, false, false, false, false, false, false] rfl rfl (by kernel_rfl) (fun _ _ _ h => h) (Or.inl ⟨by rfl, ?_⟩) ?_ ?_
          rotate_left
          · intro w'
            go_simp
            with_reducible rfl
          rotate_left
          · simp only [Act.put, List.setIfInBounds_toArray, List.set_cons_zero, List.set_cons_succ, i64_w, i32_w]
            rfl
          refine pure_ (i := 2) (N := some 47) (v := ?_) (a' := ?_) #[true, true, true, false, false, false, false, false, false, false, false, false] rfl rfl (by kernel_rfl) (fun _ _ _ h => h) (Or.inl ⟨by rfl, ?_⟩) ?_ ?_
          rotate_left
          · intro w'
            go_simp
            with_reducible rfl
          rotate_left
          · simp only [Act.put, List.setIfInBounds_toArray, List.set_cons_zero, List.set_cons_succ, i64_w, i32_w]
            rfl
          refine pure_ (i := 3) (N := some 48) (v := ?_) (a' := ?_) #[true, true, true, true, false, false, false, false, false, false, false, false] rfl rfl (by kernel_rfl) (fun _ _ _ h => h) (Or.inl ⟨by rfl, ?_⟩) ?_ ?_
          rotate_left
          · intro w'
            go_simp
            with_reducible rfl
          rotate_left
          · simp only [Act.put, List.setIfInBounds_toArray, List.set_cons_zero, List.set_cons_succ, i64_w, i32_w]
            rfl
          refine pure_ (i := 5) (N := some 50) (v := ?_) (a' := ?_) #[true, true, true, true, false, true, false, false, false, false, false, false] rfl rfl (by kernel_rfl) (fun _ _ _ h => h) (Or.inl ⟨by rfl, ?_⟩) ?_ ?_
          rotate_left
          · intro w'
            go_simp
            with_reducible rfl
          rotate_left
          · simp only [Act.put, List.setIfInBounds_toArray, List.set_cons_zero, List.set_cons_succ, i64_w, i32_w]
            rfl
          refine pure_ (i := 6) (N := some 51) (v := ?_) (a' := ?_) #[true, true, true, true, false, true, true, false, false, false, false, false] rfl rfl (by kernel_rfl) (fun _ _ _ h => h) (Or.inl ⟨by rfl, ?_⟩) ?_ ?_
          rotate_left
          · intro w'
            go_simp
            with_reducible rfl
          rotate_left
          · simp only [Act.put, List.setIfInBounds_toArray, List.set_cons_zero, List.set_cons_succ, i64_w, i32_w]
            rfl
          refine pure_ (i := 7) (N := some 52) (v := ?_) (a' := ?_) #[true, true, true, true, false, true, true, true, false, false, false, false] rfl rfl (by kernel_rfl) (fun _ _ _ h => h) (Or.inl ⟨by rfl, ?_⟩) ?_ ?_
          rotate_left
          · intro w'
            go_simp
            with_reducible rfl
          rotate_left
          · simp only [Act.put, List.setIfInBounds_toArray, List.set_cons_zero, List.set_cons_succ, i64_w, i32_w]
            rfl
          refine pure_ (i := 8) (N := some 53) (v := ?_) (a' := ?_) #[true, true, true, true, false, true, true, true, true, false, false, false] rfl rfl (by kernel_rfl) (fun _ _ _ h => h) (Or.inl ⟨by rfl, ?_⟩) ?_ ?_
          rotate_left
          · intro w'
            go_simp
            with_reducible rfl
          rotate_left
          · simp only [Act.put, List.setIfInBounds_toArray, List.set_cons_zero, List.set_cons_succ, i64_w, i32_w]
            rfl
          refine take_ (i := 4) (N := some 49) (v := ?_) (a' := ?_) #[true, true, true, true, true, true, true, true, true, false, false, false] rfl rfl (by kernel_rfl) (fun _ _ _ h => h) (Or.inl ⟨by rfl, ?_⟩) hHeld ?_ ?_
          rotate_left
          · rintro w' ⟨s0, s1⟩
            go_simp
            with_reducible rfl
          rotate_left
          · simp only [Act.put, List.setIfInBounds_toArray, List.set_cons_zero, List.set_cons_succ, i64_w, i32_w]
            rfl
          refine take_ (i := 9) (N := some 54) (v := ?_) (a' := ?_) #[true, true, true, true, true, true, true, true, true, true, false, false] rfl rfl (by kernel_rfl) (fun _ _ _ h => h) (Or.inl ⟨by rfl, ?_⟩) hHeld ?_ ?_
          rotate_left
          · rintro w' ⟨s0, s1⟩
            go_simp
            with_reducible rfl
          rotate_left
          · simp only [Act.put, List.setIfInBounds_toArray, List.set_cons_zero, List.set_cons_succ, i64_w, i32_w]
            rfl
          refine one_ (i := 10) (N := some 55) #[true, true, true, true, true, true, true, true, true, true, true, false] rfl rfl (by kernel_rfl) (by decide) (fun K hK => ?_)
          refine goes_ Try.func15 (by kernel_rfl) rfl #[.slice (some ⟨gb, 0, none⟩) (rdA an i).length cb, .slice Bx (rdA an i).length cx] (by rfl) rfl rfl (by simp only [List.map_toArray, List.map_cons, List.map_nil]; rfl) ?_
          with_reducible refine (kept_calls (Kd.C_below KR.out (below_drew (Below.refl _ _))) HCB.out (Kd.C_below KC.out (below_drew (Below.refl _ _))) HCX.out).mono ?_
          rintro e w4 ⟨rfl, hb⟩
          refine ⟨_, rfl, ?_⟩
          have HBY : Aside0 (Below wr.heap.size wr w4) := ⟨below_step (below_drew (Below.refl _ _)) hb⟩
          clear hb
          refine hK.out _ _ ⟨pw_cell_below HBY.out z1, pw_cell_below HBY.out z2⟩ (fun hHeld => ?_)
          clear hK K
          refine norm_ (a' := ?_) ?_ ?_
          rotate_left
          · show Act.put _ (some 55) _ = _
            simp only [Act.put, List.setIfInBounds_toArray, List.set_cons_zero, List.set_cons_succ, i64_w, i32_w]
            rfl
          refine pure_ (i := 11) (N := some 56) (v := ?_) (a' := ?_) #[true, true, true, true, true, true, true, true, true, true, true, true] rfl rfl (by kernel_rfl) (fun _ _ _ h => h) (Or.inl ⟨by rfl, ?_⟩) ?_ ?_
          rotate_left
          · intro w'
            go_simp
            with_reducible rfl
          rotate_left
          · simp only [Act.put, List.setIfInBounds_toArray, List.set_cons_zero, List.set_cons_succ, i64_w, i32_w]
            rfl
          refine done_ (by kernel_rfl) ?_

          have z3 : w4.cell? ⟨ga, i, none⟩ = some (.slice (some ⟨gb, 0, none⟩) (rdA an i).length cb) := pw_cell_below HBY.out z1
          go_wp2_with (first
            | (go_at_call 16; (with_reducible refine (spoil_some HLM.out (HSP.out.below HBY.out)).mono ?_); rintro e w5 ⟨rfl, _, hf⟩; have F5 := Aside0.mk hf; clear hf))
          go_roundg (an.length - (i + 1))
          case measure => have := I4.out; have := HLT.out; omega
          case rel =>
            refine ⟨i + 1, by have := HLT.out; omega, by go_num, (T4.out.below HBY.out).framed F5.out (fun k hk => by subst hk; exact ⟨HGB.out, HLO.out⟩), ?_, ?_⟩
            · have := SZ.out
              have := HBY.out.size
              have := F5.out.size
              omega
            · intro k hk hne
              have h1 : k ≠ gb := fun e => hne (⟨rdA an i, gb⟩ : Ln) (by rw [List.take_add_one, HLS.out]; simp) e.symm
              have h2 := KE.out k hk (fun x hx => hne x (List.mem_of_mem_take (i := i) (by rw [List.take_take, Nat.min_eq_left (Nat.le_succ i)]; exact hx)))
              have h3 : k < wr.heap.size := Nat.lt_of_lt_of_le hk SZ.out
              exact ((F5.out.k.2 k (Nat.lt_of_lt_of_le h3 HBY.out.size) h1).trans (HBY.out.block k h3)).trans h2
        · have dl : decide (i < an.length) = false := by simpa using hlt
          have T5 := Aside0.mk (T4.out.less (Q := fun k => k < w.heap.size) (fun k hk => Nat.lt_of_lt_of_le hk HB.out.size) (fun k hk => hk))
          clear hlt I4 T4 SZ KE N3
          go_wp2
          go_loopg [10] acts.length (fun n v10 wr => RelM w g gr acts.length n v10 wr)
          case atStart => exact ⟨0, an, [], by omega, rfl, by omega, by simp, HL.out, HAR.out, by simp, by first | exact T5.out | exact T5.out.below (below_drew (Below.refl _ _))⟩
          case round =>
            obtain ⟨i, an3, he, hi, rfl, hh, hel, hal, hav, hev, hT⟩ := hrel
            have I5 := Aside0.mk hi
            have HH := Aside0.mk hh
            have HEL := Aside0.mk hel
            have HAL := Aside0.mk hal
            have HAV := Aside0.mk hav
            have HEV := Aside0.mk hev
            have T0 := Aside0.mk hT
            clear hi hh hel hal hav hev hT T5
            by_cases hlt : i < acts.length ∧ i < 100
            · obtain ⟨h1, h2⟩ := hlt
              have dl : decide (i < acts.length) = true := by simpa using h1
              have d1 : decide ((i : Int) < 100) = true := by simp; omega
              have d2 : decide ((i : Int) < (acts.length : Int)) = true := by simp; omega
              have d3 : decide (i < 100) = true := by simp; omega
              have hi0 : (0 : Int) ≤ (i : Int) := by omega
              have HLT := Aside0.mk h1
              have HLT2 := Aside0.mk h2
              obtain ⟨ad, Ap, cp, Ar, cr, Bx, cb, rfl, e0, e1, e2, e3, hcr, hF, hcb, hCx⟩ := act_at HC.out i h1
              have hxs := HACT.out _ (rdAc_mem h1)
              generalize rdAc acts i = x at *
              have HXS := Aside0.mk hxs
              have HCR := Aside0.mk hcr
              have FX := Aside0.mk hF
              have HCB := Aside0.mk hcb
              have CX := Aside0.mk hCx
              have z0 := pw_cell_below T0.out.all e0
              have z1 := pw_cell_below T0.out.all e1
              have z2 := pw_cell_below T0.out.all e2
              have z3 := pw_cell_below T0.out.all e3
              clear h2 hxs hcr hF hcb hCx e0 e1 e2 e3
              go_wp2_with (first
                | ((with_reducible refine gate_dst (N := 11) rfl ?_); refine box_event ?hg (N := 11) ?hd (cs := #[.int .i64 0, .slice none 0 0, .slice none 0 0, .slice none 0 0]) (t := 38) ?hr ?_; (case hd => rfl); (case hg => rfl); (case hr => first | (go_simp; done) | (go_simp; rfl)); intro gx hggx w1 hA hb; obtain ⟨P1, hT1, hq1, hn1⟩ := Tw.more T0.out hb; have T1 := Aside0.mk hT1; have Q1 : Aside0 (∀ k, k < w.heap.size → P1 k) := ⟨hq1⟩; have GX : Aside0 (P1 gx ∧ w.heap.size ≤ gx) := ⟨hn1 gx (by rw [hggx]; exact Nat.le_refl _) (blk_lt hA), by rw [hggx]; exact T0.out.all.size⟩; have K1 := Aside0.mk hA; clear hT1 hq1 hn1 hA hb hggx T0)
                | ((with_reducible refine gate_store (p := 11) rfl ?_); refine storeRow_event (g := gx) rfl rfl rfl (cs := #[.int .i64 x.fn, .slice Ap x.ps.length cp, .slice Ar x.rs.length cr, .slice Bx x.args.length cb]) rfl rfl K1.out (by kernel_rfl) rfl (by simp [Value.oneCell']) ?_; intro w2 hA hb ho hs; have T2 := Aside0.mk (T1.out.framed (Fr.stored (S := fun k => k = gx) hb ho hs rfl) (fun k hk => hk ▸ GX.out)); have K2 : Aside0 (w2.heap[gx]? = some (.cells #[.int .i64 x.fn, .slice Ap x.ps.length cp, .slice Ar x.rs.length cr, .slice Bx x.args.length cb] 38 (0, 0))) := ⟨hA⟩; have y0 : w2.cell? ⟨gx, 0, none⟩ = some (.int .i64 x.fn) := blk_cell hA 0; have y1 : w2.cell? ⟨gx, 1, none⟩ = some (.slice Ap x.ps.length cp) := blk_cell hA 1; have y2 : w2.cell? ⟨gx, 2, none⟩ = some (.slice Ar x.rs.length cr) := blk_cell hA 2; have y3 : w2.cell? ⟨gx, 3, none⟩ = some (.slice Bx x.args.length cb) := blk_cell hA 3; clear hA hb ho hs T1 K1 z0 z1 z2 z3)
                | (go_at_call 12; (with_reducible refine (lent_calls (Kd.C_below CX.out T2.out.all) HCB.out HXS.out).mono ?_); rintro e w3 ⟨lb, cap, rfl, hcap, hg1, hg2, hR, hb⟩; obtain ⟨P3, hT3, hq3, hn3⟩ := Tw.more T2.out hb; have T3 := Aside0.mk hT3; have Q3 : Aside0 (∀ k, k < w.heap.size → P3 k) := ⟨fun k hk => hq3 k (Q1.out k hk)⟩; have GX3 : Aside0 (P3 gx) := ⟨hq3 _ GX.out.1⟩; have LB : Aside0 (P3 lb ∧ w.heap.size ≤ lb ∧ lb < w3.heap.size) := ⟨hn3 lb hg1 hg2, Nat.le_trans T2.out.all.size hg1, hg2⟩; have K3 := Aside0.mk (blk_below K2.out hb); have HCAP := Aside0.mk hcap; have RL3 := Aside0.mk hR; have hAA := K3.out; have y0 : w3.cell? ⟨gx, 0, none⟩ = some (.int .i64 x.fn) := blk_cell hAA 0; have y1 : w3.cell? ⟨gx, 1, none⟩ = some (.slice Ap x.ps.length cp) := blk_cell hAA 1; have y2 : w3.cell? ⟨gx, 2, none⟩ = some (.slice Ar x.rs.length cr) := blk_cell hAA 2; have y3 : w3.cell? ⟨gx, 3, none⟩ = some (.slice Bx x.args.length cb) := blk_cell hAA 3; clear hAA hT3 hq3 hn3 hcap hg1 hg2 hR hb T2 Q1 GX K2)
                | (go_at_call 17; (with_reducible refine (twh_all (f := x.fn) T3.out (by have := HEL.out; have := HH.out; omega) (Kd.F_mono (Kd.F_below FX.out T3.out.all) Q3.out) HCR.out (C_lent RL3.out) HXS.out HAV.out).mono ?_); rintro e w4 ⟨A4, c4, m4, rfl, hT, hm, hR, hk⟩; have T4 := Aside0.mk hT; have K4 := Aside0.mk (hk.blk K3.out GX3.out); have RL4 := Aside0.mk (lent_keep HCAP.out RL3.out (hk lb LB.out.1)); have RP4 := Aside0.mk hR; have M4 := Aside0.mk hm; have S3 := Aside0.mk T3.out.all.size; have hAA := K4.out; have y0 : w4.cell? ⟨gx, 0, none⟩ = some (.int .i64 x.fn) := blk_cell hAA 0; have y1 : w4.cell? ⟨gx, 1, none⟩ = some (.slice Ap x.ps.length cp) := blk_cell hAA 1; have y2 : w4.cell? ⟨gx, 2, none⟩ = some (.slice Ar x.rs.length cr) := blk_cell hAA 2; have y3 : w4.cell? ⟨gx, 3, none⟩ = some (.slice Bx x.args.length cb) := blk_cell hAA 3; clear hAA hT hm hR hk T3 K3 RL3)
                | (go_at_call 18; (with_reducible refine (twr_all (f := x.fn) T4.out (by have := HEL.out; have := HH.out; omega) (Kd.F_mono (Kd.F_below FX.out T4.out.all) (fun k hk => .inl (Q3.out k hk))) HCR.out (Kd.C_below CX.out T4.out.all) HXS.out HAL.out HAV.out).mono ?_); rintro e w5 ⟨A5, c5, m5, rfl, hT, hm, hR, hk⟩; have T5 := Aside0.mk hT; have K5 := Aside0.mk (hk.blk K4.out (.inl GX3.out)); have RL5 := Aside0.mk (lent_keep HCAP.out RL4.out (hk lb (.inl LB.out.1))); have RP5 := Aside0.mk (Kd.R_step RP4.out (fun k hk' _ => hk k (.inr hk'))); have RQ5 := Aside0.mk hR; obtain ⟨Aw, cw, Bw, dw, hrc, _⟩ := Tw.rcells hT; have r0 : w5.cell? ⟨gr, 0, none⟩ = some (.slice Aw (outA x.fn an3).length cw) := blk_cell hrc 0; have hAA := K5.out; have y3 : w5.cell? ⟨gx, 3, none⟩ = some (.slice Bx x.args.length cb) := blk_cell hAA 3; clear hAA hT hm hR hk T4 K4 RL4 RP4 hrc))
              have dn1 : ((outE x.fn x.rs an3) != (outE x.fn x.rs an3)) = false := by simp
              have dn2 : (((outA x.fn an3).length : Int) != ((outA x.fn an3).length : Int)) = false := by simp
              refine start_ (n := 27) (S := fun w' => w'.cell? ⟨gx, 3, none⟩ = some (.slice Bx x.args.length cb) ∧ w'.cell? ⟨gr, 0, none⟩ = some (.slice Aw (outA x.fn an3).length cw)) (ds := []) #[false, false, false, false, false, false, false, false, false, false, false, false, false, false, false, false, false, false, false, false, false, false, false, false, false, false, false] (by kernel_rfl) rfl rfl ⟨y3, r0⟩ (fun hHeld => ?_)
              refine pure_ (i := 0) (N := some 101) (v := ?_) (a' := ?_) #[true, false, false, false, false, false, false, false, false, false, false, false, false, false, false, false, false, false, false, false, false, false, false, false, false, false, false] rfl rfl (by kernel_rfl) (fun _ _ _ h => h) (Or.inl ⟨by rfl, ?_⟩) ?_ ?_
              rotate_left
              · intro w'
                go_simp
                with_reducible rfl
              rotate_left
              · simp only [Act.put, List.setIfInBounds_toArray, List.set_cons_zero, List.set_cons_succ, i64_w, i32_w]
                rfl
              refine pure_ (i := 1) (N := some 102) (v := ?_) (a' := ?_) #[true, true, false, false, false, false, false, false, false, false, false, false, false, false, false, false, false, false, false, false, false, false, false, false, false, false, false] rfl rfl (by kernel_rfl) (fun _ _ _ h => h) (Or.inl ⟨by rfl, ?_⟩) ?_ ?_
              rotate_left
              · intro w'
                go_simp
                with_reducible rfl
              rotate_left
              · simp only [Act.put, List.setIfInBounds_toArray, List.set_cons_zero, List.set_cons_succ, i64_w, i32_w]
                rfl
              refine one_ (i := 2) (N := some 103) #[true, true, true, false, false, false, false, false, false, false, false, false, false, false, false, false, false, false, false, false, false, false, false, false, false, false, false] rfl rfl (by kernel_rfl) (by decide) (fun K hK => ?_)
              refine goes_ Try.func19 (by kernel_rfl) rfl #[.slice A4 (outV x.fn x.rs an3).length c4, .slice A5 (outV x.fn x.rs an3).length c5] (by rfl) rfl rfl (by simp only [List.map_toArray, List.map_cons, List.map_nil]; rfl) ?_
              with_reducible refine (same_n (Kd.C_below (Kd.R_reads' RP5.out).2.2 (below_drew (Below.refl _ _))) (Kd.R_reads' RP5.out).2.1 (Kd.C_below (Kd.R_reads' RQ5.out).2.2 (below_drew (Below.refl _ _))) (Kd.R_reads' RQ5.out).2.1).mono ?_
              rintro e w6 ⟨rfl, hb⟩
              refine ⟨_, rfl, ?_⟩
              have HBY : Aside0 (Below w5.heap.size w5 w6) := ⟨below_step (below_drew (Below.refl _ _)) hb⟩
              clear hb
              refine hK.out _ _ ⟨pw_cell_below HBY.out y3, pw_cell_below HBY.out r0⟩ (fun hHeld => ?_)
              clear hK K
              refine norm_ (a' := ?_) ?_ ?_
              rotate_left
              · show Act.put _ (some 103) _ = _
                simp only [Act.put, List.setIfInBounds_toArray, List.set_cons_zero, List.set_cons_succ, i64_w, i32_w]
                rfl
              refine pure_ (i := 3) (N := some 104) (v := ?_) (a' := ?_) #[true, true, true, true, false, false, false, false, false, false, false, false, false, false, false, false, false, false, false, false, false, false, false, false, false, false, false] rfl rfl (by kernel_rfl) (fun _ _ _ h => h) (Or.inl ⟨by rfl, ?_⟩) ?_ ?_
              rotate_left
              · intro w'
                go_simp
                with_reducible rfl
              rotate_left
              · simp only [Act.put, List.setIfInBounds_toArray, List.set_cons_zero, List.set_cons_succ, i64_w, i32_w]
                rfl
              refine pure_ (i := 4) (N := some 105) (v := ?_) (a' := ?_) #[true, true, true, true, true, false, false, false, false, false, false, false, false, false, false, false, false, false, false, false, false, false, false, false, false, false, false] rfl rfl (by kernel_rfl) (fun _ _ _ h => h) (Or.inl ⟨by rfl, ?_⟩) ?_ ?_
              rotate_left
              · intro w'
                go_simp
                with_reducible rfl
              rotate_left
              · simp only [Act.put, List.setIfInBounds_toArray, List.set_cons_zero, List.set_cons_succ, i64_w, i32_w]
                rfl
              refine pure_ (i := 5) (N := some 106) (v := ?_) (a' := ?_) #[true, true, true, true, true, true, false, false, false, false, false, false, false, false, false, false, false, false, false, false, false, false, false, false, false, false, false] rfl rfl (by kernel_rfl) (fun _ _ _ h => h) (Or.inl ⟨by rfl, ?_⟩) ?_ ?_
              rotate_left
              · intro w'
                go_simp
                with_reducible rfl
              rotate_left
              · simp only [Act.put, List.setIfInBounds_toArray, List.set_cons_zero, List.set_cons_succ, i64_w, i32_w]
                rfl
              refine pure_ (i := 7) (N := some 108) (v := ?_) (a' := ?_) #[true, true, true, true, true, true, false, true, false, false, false, false, false, false, false, false, false, false, false, false, false, false, false, false, false, false, false] rfl rfl (by kernel_rfl) (fun _ _ _ h => h) (Or.inl ⟨by rfl, ?_⟩) ?_ ?_
              rotate_left
              · intro w'
                go_simp
                with_reducible rfl
              rotate_left
              · simp only [Act.put, List.setIfInBounds_toArray, List.set_cons_zero, List.set_cons_succ, i64_w, i32_w]
                rfl
              refine one_ (i := 6) (N := some 107) #[true, true, true, true, true, true, true, true, false, false, false, false, false, false, false, false, false, false, false, false, false, false, false, false, false, false, false] rfl rfl (by kernel_rfl) (by decide) (fun K hK => ?_)
              refine goes_ Try.func20 (by kernel_rfl) rfl #[.int .i64 (outE x.fn x.rs an3)] (by rfl) rfl rfl (by simp only [List.map_toArray, List.map_cons, List.map_nil]; rfl) ?_
              with_reducible refine (num_calls _ _).mono ?_
              rintro e w7 ⟨rfl, rfl⟩
              refine ⟨_, rfl, ?_⟩
              refine hK.out _ _ ⟨pw_cell_below HBY.out y3, pw_cell_below HBY.out r0⟩ (fun hHeld => ?_)
              clear hK K
              refine norm_ (a' := ?_) ?_ ?_
              rotate_left
              · show Act.put _ (some 107) _ = _
                simp only [Act.put, List.setIfInBounds_toArray, List.set_cons_zero, List.set_cons_succ, i64_w, i32_w]
                rfl
              refine pure_ (i := 8) (N := some 109) (v := ?_) (a' := ?_) #[true, true, true, true, true, true, true, true, true, false, false, false, false, false, false, false, false, false, false, false, false, false, false, false, false, false, false] rfl rfl (by kernel_rfl) (fun _ _ _ h => h) (Or.inl ⟨by rfl, ?_⟩) ?_ ?_
              rotate_left
              · intro w'
                go_simp
                with_reducible rfl
              rotate_left
              · simp only [Act.put, List.setIfInBounds_toArray, List.set_cons_zero, List.set_cons_succ, i64_w, i32_w]
                rfl
              refine pure_ (i := 9) (N := some 110) (v := ?_) (a' := ?_) #[true, true, true, true, true, true, true, true, true, true, false, false, false, false, false, false, false, false, false, false, false, false, false, false, false, false, false] rfl rfl (by kernel_rfl) (fun _ _ _ h => h) (Or.inl ⟨by rfl, ?_⟩) ?_ ?_
              rotate_left
              · intro w'
                go_simp
                with_reducible rfl
              rotate_left
              · simp only [Act.put, List.setIfInBounds_toArray, List.set_cons_zero, List.set_cons_succ, i64_w, i32_w]
                rfl
              refine pure_ (i := 10) (N := some 111) (v := ?_) (a' := ?_) #[true, true, true, true, true, true, true, true, true, true, true, false, false, false, false, false, false, false, false, false, false, false, false, false, false, false, false] rfl rfl (by kernel_rfl) (fun _ _ _ h => h) (Or.inl ⟨by rfl, ?_⟩) ?_ ?_
              rotate_left
              · intro w'
                go_simp
                with_reducible rfl
              rotate_left
              · simp only [Act.put, List.setIfInBounds_toArray, List.set_cons_zero, List.set_cons_succ, i64_w, i32_w]
                rfl
              refine pure_ (i := 11) (N := some 112) (v := ?_) (a' := ?_) #[true, true, true, true, true, true, true, true, true, true, true, true, false, false, false, false, false, false, false, false, false, false, false, false, false, false, false] rfl rfl (by kernel_rfl) (fun _ _ _ h => h) (Or.inl ⟨by rfl, ?_⟩) ?_ ?_
              rotate_left
              · intro w'
                go_simp
                with_reducible rfl
              rotate_left
              · simp only [Act.put, List.setIfInBounds_toArray, List.set_cons_zero, List.set_cons_succ, i64_w, i32_w]
                rfl
              refine pure_ (i := 13) (N := some 114) (v := ?_) (a' := ?_) #[true, true, true, true, true, true, true, true, true, true, true, true, false, true, false, false, false, false, false, false, false, false, false, false, false, false, false] rfl rfl (by kernel_rfl) (fun _ _ _ h => h) (Or.inl ⟨by rfl, ?_⟩) ?_ ?_
              rotate_left
              · intro w'
                go_simp
                with_reducible rfl
              rotate_left
              · simp only [Act.put, List.setIfInBounds_toArray, List.set_cons_zero, List.set_cons_succ, i64_w, i32_w]
                rfl
              refine pure_ (i := 14) (N := some 115) (v := ?_) (a' := ?_) #[true, true, true, true, true, true, true, true, true, true, true, true, false, true, true, false, false, false, false, false, false, false, false, false, false, false, false] rfl rfl (by kernel_rfl) (fun _ _ _ h => h) (Or.inl ⟨by rfl, ?_⟩) ?_ ?_
              rotate_left
              · intro w'
                go_simp
                with_reducible rfl
              rotate_left
              · simp only [Act.put, List.setIfInBounds_toArray, List.set_cons_zero, List.set_cons_succ, i64_w, i32_w]
                rfl
              refine pure_ (i := 15) (N := some 116) (v := ?_) (a' := ?_) #[true, true, true, true, true, true, true, true, true, true, true, true, false, true, true, true, false, false, false, false, false, false, false, false, false, false, false] rfl rfl (by kernel_rfl) (fun _ _ _ h => h) (Or.inl ⟨by rfl, ?_⟩) ?_ ?_
              rotate_left
              · intro w'
                go_simp
                with_reducible rfl
              rotate_left
              · simp only [Act.put, List.setIfInBounds_toArray, List.set_cons_zero, List.set_cons_succ, i64_w, i32_w]
                rfl
              refine take_ (i := 16) (N := some 117) (v := ?_) (a' := ?_) #[true, true, true, true, true, true, true, true, true, true, true, true, false, true, true, true, true, false, false, false, false, false, false, false, false, false, false] rfl rfl (by kernel_rfl) (fun _ _ _ h => h) (Or.inl ⟨by rfl, ?_⟩) hHeld ?_ ?_
              rotate_left
              · rintro w' ⟨s0, s1⟩
                go_simp
                with_reducible rfl
              rotate_left
              · simp only [Act.put, List.setIfInBounds_toArray, List.set_cons_zero, List.set_cons_succ, i64_w, i32_w]
                rfl
              refine pure_ (i := 17) (N := some 118) (v := ?_) (a' := ?_) #[true, true, true, true, true, true, true, true, true, true, true, true, false, true, true, true, true, true, false, false, false, false, false, false, false, false, false] rfl rfl (by kernel_rfl) (fun _ _ _ h => h) (Or.inl ⟨by rfl, ?_⟩) ?_ ?_
              rotate_left
              · intro w'
                go_simp
                with_reducible rfl
              rotate_left
              · simp only [Act.put, List.setIfInBounds_toArray, List.set_cons_zero, List.set_cons_succ, i64_w, i32_w]
                rfl
              refine one_ (i := 12) (N := some 113) #[true, true, true, true, true, true, true, true, true, true, true, true, true, true, true, true, true, true, false, false, false, false, false, false, false, false, false] rfl rfl (by kernel_rfl) (by decide) (fun K hK => ?_)
              refine goes_ Try.func21 (by kernel_rfl) rfl #[.pointer (some ⟨g, 0, none⟩)] (by rfl) rfl rfl (by simp only [List.map_toArray, List.map_cons, List.map_nil]; rfl) ?_
              with_reducible refine (left_tw (T5.out.below HBY.out)).mono ?_
              rintro e w8 ⟨rfl, hb⟩
              refine ⟨_, rfl, ?_⟩
              have HBZ : Aside0 (Below w5.heap.size w5 w8) := ⟨below_step HBY.out hb⟩
              clear hb HBY
              have HBY := HBZ
              clear HBZ
              refine hK.out _ _ ⟨pw_cell_below HBY.out y3, pw_cell_below HBY.out r0⟩ (fun hHeld => ?_)
              clear hK K
              refine norm_ (a' := ?_) ?_ ?_
              rotate_left
              · show Act.put _ (some 113) _ = _
                simp only [Act.put, List.setIfInBounds_toArray, List.set_cons_zero, List.set_cons_succ, i64_w, i32_w]
                rfl
              refine pure_ (i := 18) (N := some 119) (v := ?_) (a' := ?_) #[true, true, true, true, true, true, true, true, true, true, true, true, true, true, true, true, true, true, true, false, false, false, false, false, false, false, false] rfl rfl (by kernel_rfl) (fun _ _ _ h => h) (Or.inl ⟨by rfl, ?_⟩) ?_ ?_
              rotate_left
              · intro w'
                go_simp
                with_reducible rfl
              rotate_left
              · simp only [Act.put, List.setIfInBounds_toArray, List.set_cons_zero, List.set_cons_succ, i64_w, i32_w]
                rfl
              refine pure_ (i := 19) (N := some 120) (v := ?_) (a' := ?_) #[true, true, true, true, true, true, true, true, true, true, true, true, true, true, true, true, true, true, true, true, false, false, false, false, false, false, false] rfl rfl (by kernel_rfl) (fun _ _ _ h => h) (Or.inl ⟨by rfl, ?_⟩) ?_ ?_
              rotate_left
              · intro w'
                go_simp
                with_reducible rfl
              rotate_left
              · simp only [Act.put, List.setIfInBounds_toArray, List.set_cons_zero, List.set_cons_succ, i64_w, i32_w]
                rfl
              refine pure_ (i := 20) (N := some 121) (v := ?_) (a' := ?_) #[true, true, true, true, true, true, true, true, true, true, true, true, true, true, true, true, true, true, true, true, true, false, false, false, false, false, false] rfl rfl (by kernel_rfl) (fun _ _ _ h => h) (Or.inl ⟨by rfl, ?_⟩) ?_ ?_
              rotate_left
              · intro w'
                go_simp
                with_reducible rfl
              rotate_left
              · simp only [Act.put, List.setIfInBounds_toArray, List.set_cons_zero, List.set_cons_succ, i64_w, i32_w]
                rfl
              refine pure_ (i := 21) (N := some 122) (v := ?_) (a' := ?_) #[true, true, true, true, true, true, true, true, true, true, true, true, true, true, true, true, true, true, true, true, true, true, false, false, false, false, false] rfl rfl (by kernel_rfl) (fun _ _ _ h => h) (Or.inl ⟨by rfl, ?_⟩) ?_ ?_
              rotate_left
              · intro w'
                go_simp
                with_reducible rfl
              rotate_left
              · simp only [Act.put, List.setIfInBounds_toArray, List.set_cons_zero, List.set_cons_succ, i64_w, i32_w]
                rfl
              refine pure_ (i := 22) (N := some 123) (v := ?_) (a' := ?_) #[true, true, true, true, true, true, true, true, true, true, true, true, true, true, true, true, true, true, true, true, true, true, true, false, false, false, false] rfl rfl (by kernel_rfl) (fun _ _ _ h => h) (Or.inl ⟨by rfl, ?_⟩) ?_ ?_
              rotate_left
              · intro w'
                go_simp
                with_reducible rfl
              rotate_left
              · simp only [Act.put, List.setIfInBounds_toArray, List.set_cons_zero, List.set_cons_succ, i64_w, i32_w]
                rfl
              refine take_ (i := 23) (N := some 124) (v := ?_) (a' := ?_) #[true, true, true, true, true, true, true, true, true, true, true, true, true, true, true, true, true, true, true, true, true, true, true, true, false, false, false] rfl rfl (by kernel_rfl) (fun _ _ _ h => h) (Or.inl ⟨by rfl, ?_⟩) hHeld ?_ ?_
              rotate_left
              · rintro w' ⟨s0, s1⟩
                go_simp
                with_reducible rfl
              rotate_left
              · simp only [Act.put, List.setIfInBounds_toArray, List.set_cons_zero, List.set_cons_succ, i64_w, i32_w]
                rfl
              refine one_ (i := 24) (N := some 125) #[true, true, true, true, true, true, true, true, true, true, true, true, true, true, true, true, true, true, true, true, true, true, true, true, true, false, false] rfl rfl (by kernel_rfl) (by decide) (fun K hK => ?_)
              refine goes_ Try.func15 (by kernel_rfl) rfl #[.slice (some ⟨lb, 0, none⟩) x.args.length cap, .slice Bx x.args.length cb] (by rfl) rfl rfl (by simp only [List.map_toArray, List.map_cons, List.map_nil]; rfl) ?_
              with_reducible refine (kept_calls (Kd.C_below (C_lent2 RL5.out) HBY.out) HCAP.out (Kd.C_below CX.out (below_step T5.out.all HBY.out)) HCB.out).mono ?_
              rintro e w9 ⟨rfl, hb⟩
              refine ⟨_, rfl, ?_⟩
              have HBZ : Aside0 (Below w5.heap.size w5 w9) := ⟨below_step HBY.out hb⟩
              clear hb HBY
              have HBY := HBZ
              clear HBZ
              refine hK.out _ _ ⟨pw_cell_below HBY.out y3, pw_cell_below HBY.out r0⟩ (fun hHeld => ?_)
              clear hK K
              refine norm_ (a' := ?_) ?_ ?_
              rotate_left
              · show Act.put _ (some 125) _ = _
                simp only [Act.put, List.setIfInBounds_toArray, List.set_cons_zero, List.set_cons_succ, i64_w, i32_w]
                rfl
              refine pure_ (i := 25) (N := some 126) (v := ?_) (a' := ?_) #[true, true, true, true, true, true, true, true, true, true, true, true, true, true, true, true, true, true, true, true, true, true, true, true, true, true, false] rfl rfl (by kernel_rfl) (fun _ _ _ h => h) (Or.inl ⟨by rfl, ?_⟩) ?_ ?_
              rotate_left
              · intro w'
                go_simp
                with_reducible rfl
              rotate_left
              · simp only [Act.put, List.setIfInBounds_toArray, List.set_cons_zero, List.set_cons_succ, i64_w, i32_w]
                rfl
              refine pure_ (i := 26) (N := some 127) (v := ?_) (a' := ?_) #[true, true, true, true, true, true, true, true, true, true, true, true, true, true, true, true, true, true, true, true, true, true, true, true, true, true, true] rfl rfl (by kernel_rfl) (fun _ _ _ h => h) (Or.inl ⟨by rfl, ?_⟩) ?_ ?_
              rotate_left
              · intro w'
                go_simp
                with_reducible rfl
              rotate_left
              · simp only [Act.put, List.setIfInBounds_toArray, List.set_cons_zero, List.set_cons_succ, i64_w, i32_w]
                rfl
              refine done_ (by kernel_rfl) ?_

              have HL5 : Aside0 ((outH x.fn x.args he).length ≤ 1000) := ⟨by have := outH_len x.fn x.args he; have := HEL.out; have := HH.out; omega⟩
              have HL6 : Aside0 ((outH x.fn x.args he).length ≤ i + 1) := ⟨by have := outH_len x.fn x.args he; have := HEL.out; omega⟩
              have HV5 : Aside0 (∀ y, y ∈ (outH x.fn x.args he) → y.args.length * 16 ≤ 140737488351232) := ⟨fun y hy => (outH_mem hy).elim (HEV.out y) (fun e => by rw [e]; exact HXS.out)⟩
              have HA5 : Aside0 ((outA x.fn an3).length * 24 ≤ 140737488351232) := ⟨by have := outA_len x.fn an3; have := HAL.out; omega⟩
              have HA6 : Aside0 (∀ y, y ∈ (outA x.fn an3) → y.length * 16 ≤ 140737488351232) := ⟨fun y hy => HAV.out y (outA_mem hy)⟩
              clear r0 y3
              go_wp2_with (first
                | (go_at_call 16; (with_reducible refine (spoil_some (by have := HXS.out; omega) ((spoils_lent RL5.out).below HBY.out)).mono ?_); rintro e w10 ⟨rfl, _, hf⟩; have T10 := Aside0.mk ((T5.out.below HBY.out).framed hf (fun k hk => by subst hk; exact ⟨.inl (.inl LB.out.1), LB.out.2.1⟩)); have RP10 := Aside0.mk (Kd.R_step (Kd.R_below RP5.out HBY.out) (fun k hk' hlt => hf.k.2 k hlt (fun e => by have := LB.out.2.2; have := M4.out; have := hk'.1; omega))); clear hf HBY RP5 T5 RL5)
                | (go_at_call 16; (with_reducible refine (spoil_R RP10.out).mono ?_); rintro e w11 ⟨rfl, hf⟩; have T11 := Aside0.mk (T10.out.framed hf (fun k hk => ⟨.inl (.inr hk), by have := S3.out; have := M4.out; have := hk.1; omega⟩)); clear hf RP10 T10)
                | (go_at_call 22; (with_reducible refine (trace_tw T11.out HL5.out HV5.out).mono ?_); rintro e w12 ⟨At, ct, rfl, hN, hb⟩; obtain ⟨P12, hT12, hq12, hn12⟩ := Tw.more T11.out hb; have T12 := Aside0.mk hT12; have Q12 : Aside0 (∀ k, k < w.heap.size → P12 k) := ⟨fun k hk => hq12 k (.inl (.inl (Q3.out k hk)))⟩; have N12 := Aside0.mk hn12; have NT12 := Aside0.mk hN; have S12 := Aside0.mk T11.out.all.size; obtain ⟨Aw, cw, Bw, dw, hrc, hrN⟩ := Tw.rcells hT12; have RN12 := Aside0.mk hrN; have r1 : w12.cell? ⟨gr, 1, none⟩ = some (.slice Bw (outH x.fn x.args he).length dw) := blk_cell hrc 1; clear hN hb hT12 hq12 hn12 hrc hrN T11)
                | (go_at_call 23; (with_reducible refine (sameHeard_calls rfl (N_of_o NT12.out) RN12.out HL5.out).mono ?_); rintro e w13 ⟨rfl, hb⟩; have T13 := Aside0.mk (T12.out.below hb); have HB13 := Aside0.mk hb; clear hb r1 T12 RN12))
              generalize outH x.fn x.args he = he5 at *
              generalize outA x.fn an3 = an5 at *
              obtain ⟨ga, hga, hsp⟩ := sp_all rfl NT12.out
              have HGA := Aside0.mk hga
              clear NT12
              go_loopg [18] he5.length (fun n v18 wr => RelN w w12 g gr w11.heap.size ga P12 an5 he5 n v18 wr)
              case atStart =>
                refine ⟨0, by omega, rfl, ?_, fun hp => ?_, ?_, fun j hj => ?_⟩
                · first | exact T13.out | exact T13.out.below (below_drew (Below.refl _ _))
                · obtain ⟨_, _, cs, hcs⟩ := HGA.out hp
                  have := (blk_below hcs HB13.out).trans hcs.symm
                  first | exact this | exact ((below_drew (Below.refl _ _)).block ga (blk_lt (blk_below hcs HB13.out))).trans this
                · first | exact HB13.out.size | exact (below_drew HB13.out).size
                · first | exact (hsp j hj).below HB13.out | exact (hsp j hj).below (below_drew HB13.out)
              case round =>
                obtain ⟨j, hj, rfl, hT, hkb, hsz, hsp⟩ := hrel
                have J1 := Aside0.mk hj
                have TN := Aside0.mk hT
                have KB := Aside0.mk hkb
                have SZ := Aside0.mk hsz
                have SP := Aside0.mk hsp
                clear hj hT hkb hsz hsp T13 HB13
                by_cases hlt : j < he5.length
                · have dl : decide (j < he5.length) = true := by simpa using hlt
                  have HLT3 := Aside0.mk hlt
                  have w1 : wrap64 ((j : Int) + 1) = (j : Int) + 1 := by have := HL5.out; unfold wrap64; omega
                  obtain ⟨e, _, cs, hcs⟩ := HGA.out (by omega)
                  subst e
                  obtain ⟨Az, nz, cz, ez, hcz⟩ := spAt_calls (SP.out j hlt)
                  have CZ := Aside0.mk hcz
                  have kz : wr.heap[ga]? = some (.cells cs 52 (0, 0)) := (KB.out (by omega)).trans hcs
                  have KZ := Aside0.mk kz
                  have zz : wr.cell? ⟨ga, j * 2 + 1, none⟩ = some (.slice Az nz cz) := (blk_cell kz _).trans ((blk_cell hcs _).symm.trans ez)
                  clear hcz kz ez hcs
                  go_wp2_with (first
                    | (go_at_call 16; (with_reducible refine (CZ.out _ (by first | exact Below.refl _ _ | exact below_drew (Below.refl _ _))).mono ?_); rintro e wz ⟨rfl, gb, h1, h2, hf, hs⟩; have X1 := Aside0.mk h1; have X2 := Aside0.mk h2; have X3 := Aside0.mk hf; have X4 := Aside0.mk hs; clear h1 h2 hf hs))
                  go_roundg (he5.length - (j + 1))
                  case measure => have := J1.out; have := HLT3.out; omega
                  case rel => exact ⟨j + 1, by have := HLT3.out; omega, by go_num, TN.out.spoilt X2.out X3.out N12.out S12.out, fun hp => block_spoilt X1.out X3.out (KB.out hp) (blk_lt KZ.out), Nat.le_trans SZ.out X3.out.size, fun j' hj' => (SP.out j' hj').spoil X3.out X4.out⟩
                · have dl : decide (j < he5.length) = false := by simpa using hlt
                  go_wp2
                  go_roundg (acts.length - (i + 1))
                  case measure => have := I5.out; have := HLT.out; omega
                  case rel => exact ⟨i + 1, an5, he5, by have := HLT.out; omega, by go_num, by have := HLT2.out; omega, HL6.out, HA5.out, HA6.out, HV5.out, TN.out.less Q12.out (fun k hk => hk)⟩
            · have hd : decide (i < acts.length) = false ∨ (decide (i < acts.length) = true ∧ decide ((i : Int) < 100) = false) := by
                by_cases h : i < acts.length
                · exact .inr ⟨by simpa using h, by have : ¬ i < 100 := fun h2 => hlt ⟨h, h2⟩; simp; omega⟩
                · exact .inl (by simpa using h)
              obtain ⟨Aw, cw, Bw, dw, hrc, hrN⟩ := Tw.rcells T0.out
              have RN := Aside0.mk hrN
              have HL5 : Aside0 (he.length ≤ 1000) := ⟨by have := HEL.out; have := HH.out; omega⟩
              have r1 : wr.cell? ⟨gr, 1, none⟩ = some (.slice Bw he.length dw) := blk_cell hrc 1
              clear hrc hrN
              rcases hd with dl | ⟨dl, d1⟩
              · go_wp2_with fail
                refine start_ (n := 11) (S := fun w' => w'.cell? ⟨gr, 1, none⟩ = some (.slice Bw he.length dw)) (ds := []) #[false, false, false, false, false, false, false, false, false, false, false] (by kernel_rfl) rfl rfl (r1) (fun hHeld => ?_)
                refine pure_ (i := 0) (N := some 153) (v := ?_) (a' := ?_) #[true, false, false, false, false, false, false, false, false, false, false] rfl rfl (by kernel_rfl) (fun _ _ _ h => h) (Or.inl ⟨by rfl, ?_⟩) ?_ ?_
                rotate_left
                · intro w'
                  go_simp
                  with_reducible rfl
                rotate_left
                · simp only [Act.put, List.setIfInBounds_toArray, List.set_cons_zero, List.set_cons_succ, i64_w, i32_w]
                  rfl
                refine pure_ (i := 2) (N := some 155) (v := ?_) (a' := ?_) #[true, false, true, false, false, false, false, false, false, false, false] rfl rfl (by kernel_rfl) (fun _ _ _ h => h) (Or.inl ⟨by rfl, ?_⟩) ?_ ?_
                rotate_left
                · intro w'
                  go_simp
                  with_reducible rfl
                rotate_left
                · simp only [Act.put, List.setIfInBounds_toArray, List.set_cons_zero, List.set_cons_succ, i64_w, i32_w]
                  rfl
                refine pure_ (i := 3) (N := some 156) (v := ?_) (a' := ?_) #[true, false, true, true, false, false, false, false, false, false, false] rfl rfl (by kernel_rfl) (fun _ _ _ h => h) (Or.inl ⟨by rfl, ?_⟩) ?_ ?_
                rotate_left
                · intro w'
                  go_simp
                  with_reducible rfl
                rotate_left
                · simp only [Act.put, List.setIfInBounds_toArray, List.set_cons_zero, List.set_cons_succ, i64_w, i32_w]
                  rfl
                refine pure_ (i := 4) (N := some 157) (v := ?_) (a' := ?_) #[true, false, true, true, true, false, false, false, false, false, false] rfl rfl (by kernel_rfl) (fun _ _ _ h => h) (Or.inl ⟨by rfl, ?_⟩) ?_ ?_
                rotate_left
                · intro w'
                  go_simp
                  with_reducible rfl
                rotate_left
                · simp only [Act.put, List.setIfInBounds_toArray, List.set_cons_zero, List.set_cons_succ, i64_w, i32_w]
                  rfl
                refine take_ (i := 5) (N := some 158) (v := ?_) (a' := ?_) #[true, false, true, true, true, true, false, false, false, false, false] rfl rfl (by kernel_rfl) (fun _ _ _ h => h) (Or.inl ⟨by rfl, ?_⟩) hHeld ?_ ?_
                rotate_left
                · intro w' s0
                  go_simp
                  with_reducible rfl
                rotate_left
                · simp only [Act.put, List.setIfInBounds_toArray, List.set_cons_zero, List.set_cons_succ, i64_w, i32_w]
                  rfl
                refine one_ (i := 1) (N := some 154) #[true, true, true, true, true, true, false, false, false, false, false] rfl rfl (by kernel_rfl) (by decide) (fun K hK => ?_)
                refine goes_ Try.func22 (by kernel_rfl) rfl #[.pointer (some ⟨g, 0, none⟩)] (by rfl) rfl rfl (by simp only [List.map_toArray, List.map_cons, List.map_nil]; rfl) ?_
                with_reducible refine (trace_tw (T0.out.below (below_drew (Below.refl _ _))) HL5.out HEV.out).mono ?_
                rintro e w6 ⟨At, ct, rfl, hN, hb⟩
                refine ⟨_, rfl, ?_⟩
                have NT6 := Aside0.mk hN
                clear hN
                have HBY : Aside0 (Below wr.heap.size wr w6) := ⟨below_step (below_drew (Below.refl _ _)) hb⟩
                clear hb
                refine hK.out _ _ (pw_cell_below HBY.out r1) (fun hHeld => ?_)
                clear hK K
                refine norm_ (a' := ?_) ?_ ?_
                rotate_left
                · show Act.put _ (some 154) _ = _
                  simp only [Act.put, List.setIfInBounds_toArray, List.set_cons_zero, List.set_cons_succ, i64_w, i32_w]
                  rfl
                refine one_ (i := 6) (N := some 159) #[true, true, true, true, true, true, true, false, false, false, false] rfl rfl (by kernel_rfl) (by decide) (fun K hK => ?_)
                refine goes_ Try.func23 (by kernel_rfl) rfl #[.slice At he.length ct, .slice Bw he.length dw] (by rfl) rfl rfl (by simp only [List.map_toArray, List.map_cons, List.map_nil]; rfl) ?_
                with_reducible refine (sameHeard_calls rfl (N_of_o NT6.out) (Kd.N_below RN.out HBY.out) HL5.out).mono ?_
                rintro e w7 ⟨rfl, hb⟩
                refine ⟨_, rfl, ?_⟩
                have HBZ : Aside0 (Below wr.heap.size wr w7) := ⟨below_step HBY.out hb⟩
                clear hb HBY
                have HBY := HBZ
                clear HBZ
                refine hK.out _ _ (pw_cell_below HBY.out r1) (fun hHeld => ?_)
                clear hK K
                refine norm_ (a' := ?_) ?_ ?_
                rotate_left
                · show Act.put _ (some 159) _ = _
                  simp only [Act.put, List.setIfInBounds_toArray, List.set_cons_zero, List.set_cons_succ, i64_w, i32_w]
                  rfl
                refine pure_ (i := 7) (N := some 160) (v := ?_) (a' := ?_) #[true, true, true, true, true, true, true, true, false, false, false] rfl rfl (by kernel_rfl) (fun _ _ _ h => h) (Or.inl ⟨by rfl, ?_⟩) ?_ ?_
                rotate_left
                · intro w'
                  go_simp
                  with_reducible rfl
                rotate_left
                · simp only [Act.put, List.setIfInBounds_toArray, List.set_cons_zero, List.set_cons_succ, i64_w, i32_w]
                  rfl
                refine one_ (i := 8) (N := some 161) #[true, true, true, true, true, true, true, true, true, false, false] rfl rfl (by kernel_rfl) (by decide) (fun K hK => ?_)
                refine goes_ Try.func24 (by kernel_rfl) rfl #[] (by rfl) rfl rfl (by simp only [List.map_toArray, List.map_cons, List.map_nil]) ?_
                with_reducible refine (awake_calls _).mono ?_
                rintro e w8 ⟨rfl, hb⟩
                refine ⟨_, rfl, ?_⟩
                have HBZ : Aside0 (Below wr.heap.size wr w8) := ⟨below_step HBY.out hb⟩
                clear hb HBY
                have HBY := HBZ
                clear HBZ
                refine hK.out _ _ (pw_cell_below HBY.out r1) (fun hHeld => ?_)
                clear hK K
                refine norm_ (a' := ?_) ?_ ?_
                rotate_left
                · show Act.put _ (some 161) _ = _
                  simp only [Act.put, List.setIfInBounds_toArray, List.set_cons_zero, List.set_cons_succ, i64_w, i32_w]
                  rfl
                refine pure_ (i := 9) (N := some 162) (v := ?_) (a' := ?_) #[true, true, true, true, true, true, true, true, true, true, false] rfl rfl (by kernel_rfl) (fun _ _ _ h => h) (Or.inl ⟨by rfl, ?_⟩) ?_ ?_
                rotate_left
                · intro w'
                  go_simp
                  with_reducible rfl
                rotate_left
                · simp only [Act.put, List.setIfInBounds_toArray, List.set_cons_zero, List.set_cons_succ, i64_w, i32_w]
                  rfl
                refine pure_ (i := 10) (N := some 4) (v := ?_) (a' := ?_) #[true, true, true, true, true, true, true, true, true, true, true] rfl rfl (by kernel_rfl) (fun _ _ _ h => h) (Or.inl ⟨by rfl, ?_⟩) ?_ ?_
                rotate_left
                · intro w'
                  go_simp
                  with_reducible rfl
                rotate_left
                · simp only [Act.put, List.setIfInBounds_toArray, List.set_cons_zero, List.set_cons_succ, i64_w, i32_w]
                  rfl
                refine done_ (by kernel_rfl) ?_

                go_wp2
                go_ret
                exact ⟨rfl, (T0.out.below HBY.out).all⟩
              · go_wp2_with fail
                refine start_ (n := 11) (S := fun w' => w'.cell? ⟨gr, 1, none⟩ = some (.slice Bw he.length dw)) (ds := []) #[false, false, false, false, false, false, false, false, false, false, false] (by kernel_rfl) rfl rfl (r1) (fun hHeld => ?_)
                refine pure_ (i := 0) (N := some 153) (v := ?_) (a' := ?_) #[true, false, false, false, false, false, false, false, false, false, false] rfl rfl (by kernel_rfl) (fun _ _ _ h => h) (Or.inl ⟨by rfl, ?_⟩) ?_ ?_
                rotate_left
                · intro w'
                  go_simp
                  with_reducible rfl
                rotate_left
                · simp only [Act.put, List.setIfInBounds_toArray, List.set_cons_zero, List.set_cons_succ, i64_w, i32_w]
                  rfl
                refine pure_ (i := 2) (N := some 155) (v := ?_) (a' := ?_) #[true, false, true, false, false, false, false, false, false, false, false] rfl rfl (by kernel_rfl) (fun _ _ _ h => h) (Or.inl ⟨by rfl, ?_⟩) ?_ ?_
                rotate_left
                · intro w'
                  go_simp
                  with_reducible rfl
                rotate_left
                · simp only [Act.put, List.setIfInBounds_toArray, List.set_cons_zero, List.set_cons_succ, i64_w, i32_w]
                  rfl
                refine pure_ (i := 3) (N := some 156) (v := ?_) (a' := ?_) #[true, false, true, true, false, false, false, false, false, false, false] rfl rfl (by kernel_rfl) (fun _ _ _ h => h) (Or.inl ⟨by rfl, ?_⟩) ?_ ?_
                rotate_left
                · intro w'
                  go_simp
                  with_reducible rfl
                rotate_left
                · simp only [Act.put, List.setIfInBounds_toArray, List.set_cons_zero, List.set_cons_succ, i64_w, i32_w]
                  rfl
                refine pure_ (i := 4) (N := some 157) (v := ?_) (a' := ?_) #[true, false, true, true, true, false, false, false, false, false, false] rfl rfl (by kernel_rfl) (fun _ _ _ h => h) (Or.inl ⟨by rfl, ?_⟩) ?_ ?_
                rotate_left
                · intro w'
                  go_simp
                  with_reducible rfl
                rotate_left
                · simp only [Act.put, List.setIfInBounds_toArray, List.set_cons_zero, List.set_cons_succ, i64_w, i32_w]
                  rfl
                refine take_ (i := 5) (N := some 158) (v := ?_) (a' := ?_) #[true, false, true, true, true, true, false, false, false, false, false] rfl rfl (by kernel_rfl) (fun _ _ _ h => h) (Or.inl ⟨by rfl, ?_⟩) hHeld ?_ ?_
                rotate_left
                · intro w' s0
                  go_simp
                  with_reducible rfl
                rotate_left
                · simp only [Act.put, List.setIfInBounds_toArray, List.set_cons_zero, List.set_cons_succ, i64_w, i32_w]
                  rfl
                refine one_ (i := 1) (N := some 154) #[true, true, true, true, true, true, false, false, false, false, false] rfl rfl (by kernel_rfl) (by decide) (fun K hK => ?_)
                refine goes_ Try.func22 (by kernel_rfl) rfl #[.pointer (some ⟨g, 0, none⟩)] (by rfl) rfl rfl (by simp only [List.map_toArray, List.map_cons, List.map_nil]; rfl) ?_
                with_reducible refine (trace_tw (T0.out.below (below_drew (Below.refl _ _))) HL5.out HEV.out).mono ?_
                rintro e w6 ⟨At, ct, rfl, hN, hb⟩
                refine ⟨_, rfl, ?_⟩
                have NT6 := Aside0.mk hN
                clear hN
                have HBY : Aside0 (Below wr.heap.size wr w6) := ⟨below_step (below_drew (Below.refl _ _)) hb⟩
                clear hb
                refine hK.out _ _ (pw_cell_below HBY.out r1) (fun hHeld => ?_)
                clear hK K
                refine norm_ (a' := ?_) ?_ ?_
                rotate_left
                · show Act.put _ (some 154) _ = _
                  simp only [Act.put, List.setIfInBounds_toArray, List.set_cons_zero, List.set_cons_succ, i64_w, i32_w]
                  rfl
                refine one_ (i := 6) (N := some 159) #[true, true, true, true, true, true, true, false, false, false, false] rfl rfl (by kernel_rfl) (by decide) (fun K hK => ?_)
                refine goes_ Try.func23 (by kernel_rfl) rfl #[.slice At he.length ct, .slice Bw he.length dw] (by rfl) rfl rfl (by simp only [List.map_toArray, List.map_cons, List.map_nil]; rfl) ?_
                with_reducible refine (sameHeard_calls rfl (N_of_o NT6.out) (Kd.N_below RN.out HBY.out) HL5.out).mono ?_
                rintro e w7 ⟨rfl, hb⟩
                refine ⟨_, rfl, ?_⟩
                have HBZ : Aside0 (Below wr.heap.size wr w7) := ⟨below_step HBY.out hb⟩
                clear hb HBY
                have HBY := HBZ
                clear HBZ
                refine hK.out _ _ (pw_cell_below HBY.out r1) (fun hHeld => ?_)
                clear hK K
                refine norm_ (a' := ?_) ?_ ?_
                rotate_left
                · show Act.put _ (some 159) _ = _
                  simp only [Act.put, List.setIfInBounds_toArray, List.set_cons_zero, List.set_cons_succ, i64_w, i32_w]
                  rfl
                refine pure_ (i := 7) (N := some 160) (v := ?_) (a' := ?_) #[true, true, true, true, true, true, true, true, false, false, false] rfl rfl (by kernel_rfl) (fun _ _ _ h => h) (Or.inl ⟨by rfl, ?_⟩) ?_ ?_
                rotate_left
                · intro w'
                  go_simp
                  with_reducible rfl
                rotate_left
                · simp only [Act.put, List.setIfInBounds_toArray, List.set_cons_zero, List.set_cons_succ, i64_w, i32_w]
                  rfl
                refine one_ (i := 8) (N := some 161) #[true, true, true, true, true, true, true, true, true, false, false] rfl rfl (by kernel_rfl) (by decide) (fun K hK => ?_)
                refine goes_ Try.func24 (by kernel_rfl) rfl #[] (by rfl) rfl rfl (by simp only [List.map_toArray, List.map_cons, List.map_nil]) ?_
                with_reducible refine (awake_calls _).mono ?_
                rintro e w8 ⟨rfl, hb⟩
                refine ⟨_, rfl, ?_⟩
                have HBZ : Aside0 (Below wr.heap.size wr w8) := ⟨below_step HBY.out hb⟩
                clear hb HBY
                have HBY := HBZ
                clear HBZ
                refine hK.out _ _ (pw_cell_below HBY.out r1) (fun hHeld => ?_)
                clear hK K
                refine norm_ (a' := ?_) ?_ ?_
                rotate_left
                · show Act.put _ (some 161) _ = _
                  simp only [Act.put, List.setIfInBounds_toArray, List.set_cons_zero, List.set_cons_succ, i64_w, i32_w]
                  rfl
                refine pure_ (i := 9) (N := some 162) (v := ?_) (a' := ?_) #[true, true, true, true, true, true, true, true, true, true, false] rfl rfl (by kernel_rfl) (fun _ _ _ h => h) (Or.inl ⟨by rfl, ?_⟩) ?_ ?_
                rotate_left
                · intro w'
                  go_simp
                  with_reducible rfl
                rotate_left
                · simp only [Act.put, List.setIfInBounds_toArray, List.set_cons_zero, List.set_cons_succ, i64_w, i32_w]
                  rfl
                refine pure_ (i := 10) (N := some 4) (v := ?_) (a' := ?_) #[true, true, true, true, true, true, true, true, true, true, true] rfl rfl (by kernel_rfl) (fun _ _ _ h => h) (Or.inl ⟨by rfl, ?_⟩) ?_ ?_
                rotate_left
                · intro w'
                  go_simp
                  with_reducible rfl
                rotate_left
                · simp only [Act.put, List.setIfInBounds_toArray, List.set_cons_zero, List.set_cons_succ, i64_w, i32_w]
                  rfl
                refine done_ (by kernel_rfl) ?_

                go_wp2
                go_ret
                exact ⟨rfl, (T0.out.below HBY.out).all⟩
end Go.Proofs.Ytmofdpkddimmlaa.ETrace
