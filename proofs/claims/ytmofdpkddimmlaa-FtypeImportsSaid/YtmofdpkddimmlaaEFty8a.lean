/-
  FtypeImports: its walk.
-/
import Derived.Test.YtmofdpkddimmlaaEFty9
import Derived.Test.YtmofdpkddimmlaaWIn
namespace Go.Proofs.Ytmofdpkddimmlaa.EFty
open Go Go.RowKit Go.Proofs.Ytmofdpkddimmlaa.F Go.Proofs.YtmofdpkddimmlaaW.Hand Go.Proofs.YtmofdpkddimmlaaW.PrintWords Go.Proofs.YtmofdpkddimmlaaW.PrintLast Go.Proofs.YtmofdpkddimmlaaW.PrintMore
set_option linter.unusedVariables false
set_option linter.unusedSimpArgs false
set_option maxHeartbeats 16000000 in
set_option maxRecDepth 100000 in
theorem imports_a (w : World) (ks : List Int) (own : Int) (q : Nat) (A : Option Addr) (c : Nat) (hks : (Kd.int .i64).C w A ks.length ks) (hkc : ks.length ≤ c) (hq : q < 8) (hown : Go.bits .and .i64 own 7 = (q : Int)) (hN : ks.length ≤ 20) :
    Calls Try.prog 7 #[.slice A ks.length c, .int .i64 own] w fun e w' => e = .returned (.bool true) ∧ Below w.heap.size w w' := by
  have hu60 := Try.underlying60
  have hu61 := Try.underlying61
  have hu63 := Try.underlying63
  have hu34 := Try.underlying34
  have HK := Aside0.mk hks
  have HQ := Aside0.mk hq
  have HO := Aside0.mk hown
  have HN := Aside0.mk hN
  clear hks hq hown hN
  go_enter Try.func7, Try.ntmps7
  go_wp2_with (first
    | (go_at_call 39; (with_reducible refine (awake_calls _).mono ?_); rintro e w1 ⟨rfl, hb⟩; have HB1 := Aside0.mk hb; clear hb)
    | ((with_reducible refine gate_dst (N := 5) rfl ?_); refine box_event ?hg (N := 5) ?hd (cs := #[.slice none 0 0, .slice none 0 0, .slice none 0 0, .slice none 0 0, .slice none 0 0, .slice none 0 0, .slice none 0 0, .int .i64 0, .slice none 0 0, .slice none 0 0, .slice none 0 0]) (t := 69) ?hr ?_; (case hd => rfl); (case hg => rfl); (case hr => first | (go_simp; done) | (go_simp; rfl)); intro gm hggm w2 hA hb; have HB2 := Aside0.mk (below_step HB1.out hb); have GL := Aside0.mk (show w.heap.size ≤ gm by rw [hggm]; exact HB1.out.size); have BG2 := Aside0.mk hA; clear hggm hb hA HB1)
    | ((with_reducible refine gate_store (p := 5) rfl ?_); refine storeRow_event (g := gm) rfl rfl rfl (cs := #[.slice none 0 0, .slice none 0 0, .slice none 0 0, .slice none 0 0, .slice none 0 0, .slice none 0 0, .slice none 0 0, .int .i64 0, .slice none 0 0, .slice none 0 0, .slice none 0 0]) rfl rfl BG2.out (by kernel_rfl) rfl (by simp [Value.oneCell']) ?_; intro w3 hA hb ho hs; have BG3 := Aside0.mk hA; have HB3 := Aside0.mk (hb _ _ GL.out HB2.out); clear hA hb ho hs BG2 HB2))
  go_loopg [6] 40 (fun n v6 wr => Rel1 w gm n v6 wr)
  case atStart => exact ⟨0, fun k => if k < w.heap.size then 99 else 0, none, 0, by omega, rfl, fun k hk => if_pos hk, by first | exact HB3.out | exact below_drew HB3.out, if_neg (by have := GL.out; omega), by first | exact BG3.out | exact blk_below BG3.out (below_drew (Below.refl _ _)), Kd.N_nil _ _ _ _ _⟩
  case round =>
    clear BG3 HB3
    obtain ⟨i, L, AT, cT, hi, rfl, hlow, hb, hlm, hm, hT⟩ := hrel
    have I1 := Aside0.mk hi
    have LO := Aside0.mk hlow
    have HB := Aside0.mk hb
    have LM := Aside0.mk hlm
    have HM := Aside0.mk hm
    have NT := Aside0.mk hT
    clear hi hlow hb hlm hm hT
    by_cases hlt : i < 40
    · have dl : decide (i < 40) = true := decide_eq_true hlt
      have dl2 : decide ((i : Int) < 40) = true := decide_eq_true (by omega)
      have HLT := Aside0.mk hlt
      have hli : (i : Int) < 40 := by omega
      have w1 : wrap64 ((i : Int) + 1) = (i : Int) + 1 := by unfold wrap64; omega
      have z0 : wr.cell? ⟨gm, 0, none⟩ = some (.slice AT i cT) := blk_cell HM.out 0
      have NLT := Aside0.mk (Kd.N_lt NT.out)
      have GML := Aside0.mk (blk_lt HM.out)
      have NGM : Aside0 (some gm ≠ (Value.slice AT i cT).ownBlock) := ⟨fun e => by have h5 : L gm = 1 := NT.out.1 gm e.symm; have := LM.out; omega⟩
      go_wp2
      refine start_ (n := 9) (S := fun w' => w'.cell? ⟨gm, 0, none⟩ = some (.slice AT i cT)) (ds := [8]) #[false, false, false, false, false, false, false, false, false] (by kernel_rfl) rfl rfl (z0) (fun hHeld => ?_)
      refine pure_ (i := 0) (N := some 36) (v := ?_) (a' := ?_) #[true, false, false, false, false, false, false, false, false] rfl rfl (by kernel_rfl) (fun _ _ _ h => h) (Or.inl ⟨by rfl, ?_⟩) ?_ ?_
      rotate_left
      · intro w'
        go_simp
        with_reducible rfl
      rotate_left
      · simp only [Act.put, List.setIfInBounds_toArray, List.set_cons_zero, List.set_cons_succ, i64_w, i32_w]
        rfl
      refine pure_ (i := 2) (N := some 38) (v := ?_) (a' := ?_) #[true, false, true, false, false, false, false, false, false] rfl rfl (by kernel_rfl) (fun _ _ _ h => h) (Or.inl ⟨by rfl, ?_⟩) ?_ ?_
      rotate_left
      · intro w'
        go_simp
        with_reducible rfl
      rotate_left
      · simp only [Act.put, List.setIfInBounds_toArray, List.set_cons_zero, List.set_cons_succ, i64_w, i32_w]
        rfl
      refine take_ (i := 1) (N := some 37) (v := ?_) (a' := ?_) #[true, true, true, false, false, false, false, false, false] rfl rfl (by kernel_rfl) (fun _ _ _ h => h) (Or.inl ⟨by rfl, ?_⟩) hHeld ?_ ?_
      rotate_left
      · intro w' s0
        go_simp
        with_reducible rfl
      rotate_left
      · simp only [Act.put, List.setIfInBounds_toArray, List.set_cons_zero, List.set_cons_succ, i64_w, i32_w]
        rfl
      refine one_ (i := 3) (N := some 39) #[true, true, true, true, false, false, false, false, false] rfl rfl (by kernel_rfl) (by decide) (fun K hK => ?_)
      refine Kd.N_make_step (Kd.int .i64) (w0 := wr) wr.heap.size 3 ?hw (N' := 39) ?hd 34 (.tmp 38) (.tmp 38) ?ho (i : Int) ?hx ?hy hu34 (.int .i64 0) 8 (by kernel_rfl) rfl (by decide) (by decide) 0 (ok := fun k => wr.heap.size ≤ k) (okp := fun _ => False) FK_i (fun _ hk => hk.elim) (by first | exact Nat.le_refl _ | simp) (by omega) (by have := HLT.out; rw [Int.toNat_natCast]; omega) (below_drew (Below.refl _ _)) (by first | exact Nat.le_refl _ | simp) ?_
      case hw => rfl
      case hd => rfl
      case ho => rfl
      case hx => rfl
      case hy => rfl
      intro v39 wm hNm hbm hgm _
      rw [Int.toNat_natCast] at hNm
      obtain ⟨A39, c39, hv⟩ := Kd.N_slice hNm
      rw [List.length_replicate] at hv
      subst hv
      have NM := Aside0.mk hNm
      have HBm : Aside0 (Below wr.heap.size wr wm) := ⟨hbm⟩
      clear hNm hbm hgm
      refine hK.out _ _ (pw_cell_below HBm.out z0) (fun hHeld => ?_)
      clear hK K
      refine norm_ (a' := ?_) ?_ ?_
      rotate_left
      · show Act.put _ (some 39) _ = _
        simp only [Act.put, List.setIfInBounds_toArray, List.set_cons_zero, List.set_cons_succ, i64_w, i32_w]
        rfl
      refine pure_ (i := 4) (N := some 40) (v := ?_) (a' := ?_) #[true, true, true, true, true, false, false, false, false] rfl rfl (by kernel_rfl) (fun _ _ _ h => h) (Or.inl ⟨by rfl, ?_⟩) ?_ ?_
      rotate_left
      · intro w'
        go_simp
        with_reducible rfl
      rotate_left
      · simp only [Act.put, List.setIfInBounds_toArray, List.set_cons_zero, List.set_cons_succ, i64_w, i32_w]
        rfl
      refine one_ (i := 5) (N := some 41) #[true, true, true, true, true, true, false, false, false] rfl rfl (by kernel_rfl) (by decide) (fun K hK => ?_)
      refine lit_step ?hw (N := 41) ?hd (cs := #[.slice A39 i c39, .slice none 0 0]) (t := 36) (n := 1) ?hr ?_
      case hw => rfl
      case hd => rfl
      case hr => first | (go_simp; done) | (go_simp; rfl)
      intro gl hgl wl hA hb
      have BL := Aside0.mk hA
      have HBl : Aside0 (Below wr.heap.size wr wl) := ⟨below_step HBm.out hb⟩
      have GLL : Aside0 (wr.heap.size ≤ gl) := ⟨by rw [hgl]; exact HBm.out.size⟩
      have hcl := (Kd.N_reads' NM.out).2.1
      have FO : Aside0 (Kd.F k36 wl (fun k => wr.heap.size ≤ k) (some ⟨gl, 0, none⟩) 1 [(⟨List.replicate i 0, []⟩ : S36)]) := ⟨F_one (cs := [.slice A39 i c39, .slice none 0 0]) BL.out GLL.out (by have := FK_36 (ok := fun k => wr.heap.size ≤ k) (xs := List.replicate i 0) (A := A39) (c := c39) (Kd.F_below (by have := Kd.N_F NM.out; rwa [List.length_replicate]) hb) (by rwa [List.length_replicate]); rwa [List.length_replicate] at this)⟩
      clear hA hb hgl hcl NM
      refine hK.out _ _ (pw_cell_below HBl.out z0) (fun hHeld => ?_)
      clear hK K
      refine norm_ (a' := ?_) ?_ ?_
      rotate_left
      · show Act.put _ (some 41) _ = _
        simp only [Act.put, List.setIfInBounds_toArray, List.set_cons_zero, List.set_cons_succ, i64_w, i32_w]
        rfl
      refine one_ (i := 6) (N := some 42) #[true, true, true, true, true, true, true, false, false] rfl rfl (by kernel_rfl) (by decide) (fun K hK => ?_)
      refine Kd.N_append_rows_step k36 (w0 := wl) 0 ?hw (.tmp 37) (.tmp 41) 60 36 (.agg #[.slice none 0 0, .slice none 0 0]) 48 ?ho hu60 (by kernel_rfl) rfl (by decide) (by decide) (.slice AT i cT) (TL i) [(⟨List.replicate i 0, []⟩ : S36)] (some ⟨gl, 0, none⟩) 1 1 (fun k => L k = 1 ∨ wr.heap.size ≤ k) (fun k => wr.heap.size ≤ k) ?h1 ?h2 (Kd.N_mono (Kd.N_below NT.out HBl.out) (fun _ h => .inl h)) FO.out ?h4 ?h3 (Below.refl _ _) (Nat.zero_le _) (by have := HLT.out; rw [TL_len]; omega) ?_
      case hw => rfl
      case ho => rfl
      case h1 => rfl
      case h2 => rfl
      case h4 => exact fun k hk => ⟨.inr hk, fun e => by have := NLT.out k e.symm; omega⟩
      case h3 => exact fun k hk => .inr (Nat.le_trans HBl.out.size hk)
      intro v6 w6 hN6 hb6 hgr hat
      rw [TL_succ] at hN6
      obtain ⟨A4, c4, hv4⟩ := Kd.N_slice hN6
      rw [TL_len] at hv4
      subst hv4
      have N6 := Aside0.mk hN6
      have HM6 := Aside0.mk (blk_grown (blk_below HM.out HBl.out) hgr NGM.out)
      have FR6 : Aside0 (Fr wr w6 (fun k => L k = 1)) := ⟨app_fr NT.out HBl.out hgr⟩
      clear hN6 hb6 hgr hat
      refine hK.out _ _ ((blk_cell HM6.out 0 |>.trans rfl)) (fun hHeld => ?_)
      clear hK K
      refine norm_ (a' := ?_) ?_ ?_
      rotate_left
      · show Act.put _ (some 42) _ = _
        simp only [Act.put, List.setIfInBounds_toArray, List.set_cons_zero, List.set_cons_succ, i64_w, i32_w]
        rfl
      refine pure_ (i := 7) (N := some 43) (v := ?_) (a' := ?_) #[true, true, true, true, true, true, true, true, false] rfl rfl (by kernel_rfl) (fun _ _ _ h => h) (Or.inl ⟨by rfl, ?_⟩) ?_ ?_
      rotate_left
      · intro w'
        go_simp
        with_reducible rfl
      rotate_left
      · simp only [Act.put, List.setIfInBounds_toArray, List.set_cons_zero, List.set_cons_succ, i64_w, i32_w]
        rfl
      refine last_ (i := 8) (N := none) #[true, true, true, true, true, true, true, true, true] rfl rfl (by kernel_rfl) (by decide) (fun K hK => ?_)
      refine storeCell_step (g := gm) (j := 0) (x := .slice A4 (i + 1) c4) (by rfl) rfl rfl rfl rfl HM6.out (by simp [mcells]) (by kernel_rfl) rfl ?_
      intro w7 hA hb ho hs'
      have HM7 : Aside0 (w7.heap[gm]? = some (.cells (mcells (.slice A4 (i + 1) c4) (.slice none 0 0) (.slice none 0 0) (.slice none 0 0)) 69 (0, 0))) := ⟨hA⟩
      have N7 := Aside0.mk (Kd.N_step N6.out (fun k hk _ => ho k (by rcases hk with hk | hk; (intro e; subst e; have := LM.out; omega); (have := GML.out; omega))))
      have FR7 : Aside0 (Fr wr w7 (fun k => L k = 1 ∨ k = gm)) := ⟨(FR6.out.mono (fun k hk => .inl hk)).then_ (Fr.stored (S := fun k => k = gm) hb ho hs' rfl) (fun k hk => .inl (.inr hk))⟩
      clear hA hb ho hs'
      refine hK.out _ _ ?_
      clear hK K
      refine done_ (by kernel_rfl) ?_

      go_wp2
      go_roundg (40 - (i + 1))
      case measure => have := I1.out; have := HLT.out; omega
      case rel => exact ⟨i + 1, relab L wr.heap.size 1, A4, c4, by have := HLT.out; omega, by go_num, fun k hk => (relab_old (Nat.lt_of_lt_of_le hk HB.out.size)).trans (LO.out k hk), ((Fr.of_below HB.out _).then_ FR7.out (fun k hk => .inl hk)).to_below (fun k hk => Nat.le_of_not_lt (fun hlt => by have h9 := LO.out k hlt; rcases hk with hk | hk; omega; (subst hk; have := LM.out; omega))), (relab_old GML.out).trans LM.out, HM7.out, N_self N7.out⟩
    · have dl : decide (i < 40) = false := decide_eq_false hlt
      have dl2 : decide ((i : Int) < 40) = false := decide_eq_false (by omega)
      have hle : (40 : Int) ≤ (i : Int) := by omega
      obtain rfl : i = 40 := by have := I1.out; omega
      clear hlt
      go_wp2_with (first
        | ((with_reducible refine gate_dst (N := 9) rfl ?_); refine box_event ?hg (N := 9) ?hd (cs := #[.int .i64 0, .int .i64 0, .int .i64 0, .int .i64 0]) (t := 86) ?hr ?_; (case hd => rfl); (case hg => rfl); (case hr => first | (go_simp; done) | (go_simp; rfl)); intro gc hggc w4 hA hb; have S2 := Aside0.mk (St.begin LO.out HB.out LM.out HM.out NT.out hggc hA hb); clear hggc hA hb LO HB LM HM NT I1))
      go_loopg [7, 8, 10] ks.length (fun n v7 v8 v10 wr => Rel2 w ks gm gc ks.length n v7 v8 v10 wr)
      case atStart => first | exact ⟨0, _, _, _, _, _, by omega, rfl, rfl, rfl, S2.out⟩ | exact ⟨0, _, _, _, _, _, by omega, rfl, rfl, rfl, S2.out.call (below_drew (Below.refl _ _))⟩
      case round =>
        clear S2
        obtain ⟨i, L, vT, vI, vf, vt, hi, rfl, rfl, rfl, hS⟩ := hrel
        have I2 := Aside0.mk hi
        have S3 := Aside0.mk hS
        obtain ⟨Af, cf, rfl⟩ : ∃ Af cf, vf = .slice Af (kc ks 0 i) cf := Kd.N_slice hS.f
        obtain ⟨At, ct, rfl⟩ : ∃ At ct, vt = .slice At (kc ks 3 i) ct := Kd.N_slice hS.t
        obtain ⟨AI, cI, hvI⟩ := Kd.N_slice hS.I
        rw [FULL_len] at hvI
        subst hvI
        clear hi hS
        by_cases hlt : i < ks.length
        · have hl1 : i < ks.length := by have := HN.out; omega
          have hl2 : i < 20 := by have := HN.out; omega
          have dl1 : decide (i < ks.length) = true := decide_eq_true hl1
          have dl2 : decide (i < 20) = true := decide_eq_true hl2
          have dl3 : decide ((i : Int) < 20) = true := decide_eq_true (by omega)
          have hl3 : (i : Int) < 20 := by omega
          have HLT := Aside0.mk hlt
          have HL2 := Aside0.mk hl2
          have hi0 : (0 : Int) ≤ (i : Int) := by omega
          have w1 : wrap64 ((i : Int) + 1) = (i : Int) + 1 := by unfold wrap64; omega
          obtain ⟨ad, rfl, ze⟩ := int_at HK.out i hl1
          have zX := pw_cell_below S3.out.bel ze
          clear ze
          obtain ⟨X, hX⟩ : ∃ X, ks.getD i 0 = X := ⟨_, rfl⟩
          have hkd : kd ks i = Go.bits .and .i64 X 3 := by unfold kd; rw [hX]
          rw [hX] at zX
          clear hX
          obtain ⟨kk, hk4, hke⟩ := and3 X
          rw [hke] at hkd
          have z1 : wr.cell? ⟨gm, 1, none⟩ = some (.slice AI i cI) := blk_cell S3.out.m 1
          have hkk : kk = 0 ∨ kk = 1 ∨ kk = 2 ∨ kk = 3 := by omega
          clear hlt hk4
          rcases hkk with rfl | rfl | rfl | rfl
          · have hke0 : Go.bits .and .i64 X 3 = 0 := hke
            have KD := Aside0.mk (show kd ks i = 0 from hkd)
            have FUL := FULL_succ ks i
            rw [KD.out] at FUL
            have FULA := Aside0.mk FUL
            have wc : wrap64 ((kc ks 0 i : Int) + 1) = (kc ks 0 i : Int) + 1 := by have := kc_le ks 0 i; have := HL2.out; unfold wrap64; omega
            clear hke hkd FUL
            go_wp2_with (first
              | ((with_reducible refine gate_dst (N := 64) rfl ?_); refine lit_event ?hg (N := 64) ?hd (cs := #[.string ⟨#[]⟩, .string ⟨#[]⟩, .int .i64 0, .int .i64 (i : Int), .bool false, .int .i64 0, .int .i64 0]) (t := 90) (n := 1) ?hr ?_; (case hd => rfl); (case hg => rfl); (case hr => first | (go_simp; done) | (go_simp; rfl)); intro gl hggl wl hA hb; have HBl := Aside0.mk hb; have GLL := Aside0.mk (show wr.heap.size ≤ gl by rw [hggl]; exact Nat.le_refl _); have FO : Aside0 (Kd.F k90 wl (fun k => wr.heap.size ≤ k) (some ⟨gl, 0, none⟩) 1 [(⟨⟨#[]⟩, ⟨#[]⟩, 0, (i : Int), false, ⟨0, 0⟩⟩ : S90)]) := ⟨F_one (cs := [.string ⟨#[]⟩, .string ⟨#[]⟩, .int .i64 0, .int .i64 (i : Int), .bool false, .int .i64 0, .int .i64 0]) hA GLL.out FK_90⟩; have NLT := Aside0.mk (Kd.N_lt S3.out.I); clear hggl hb hA)
              | ((with_reducible refine gate_dst (N := 65) rfl ?_); refine Kd.N_append_rows k90 (w0 := wl) 0 rfl (.tmp 60) (.tmp 64) 61 90 (.agg #[.string ⟨#[]⟩, .string ⟨#[]⟩, .int .i64 0, .int .i64 0, .bool false, .int .i64 0, .int .i64 0]) 72 rfl hu61 (by kernel_rfl) rfl (by decide) (by decide) (.slice AI i cI) (FULL ks i) [(⟨⟨#[]⟩, ⟨#[]⟩, 0, (i : Int), false, ⟨0, 0⟩⟩ : S90)] (some ⟨gl, 0, none⟩) 1 1 (fun k => L k = 2 ∨ wr.heap.size ≤ k) (fun k => wr.heap.size ≤ k) ?h1 ?h2 (Kd.N_mono (Kd.N_below S3.out.I HBl.out) (fun _ h => .inl h)) FO.out (fun k hk => ⟨.inr hk, fun e => by have := NLT.out k e.symm; omega⟩) (fun k hk => .inr (Nat.le_trans HBl.out.size hk)) (Below.refl _ _) (Nat.zero_le _) (by have := HL2.out; rw [FULL_len]; omega) ?_; (case h1 => first | rfl | (simp; done)); (case h2 => rfl); intro v6 w6 hN6 hb6 hgr hat; rw [FULA.out] at hN6; obtain ⟨A4, c4, hv4⟩ := Kd.N_slice hN6; rw [FULL_len] at hv4; subst hv4; have N6 := Aside0.mk hN6; have NGM : Aside0 (some gm ≠ (.slice AI i cI : Value).ownBlock) := ⟨fun e => by have h5 : L gm = 2 := S3.out.I.1 gm e.symm; have := S3.out.lm; omega⟩; have HM6 := Aside0.mk (blk_grown (blk_below S3.out.m HBl.out) hgr NGM.out); have FR6 : Aside0 (Fr wr w6 (fun k => L k = 2)) := ⟨app_fr S3.out.I HBl.out hgr⟩; clear hN6 hb6 hgr hat FO NLT NGM)
              | ((with_reducible refine gate_store (p := 66) rfl ?_); refine storeCell_event (g := gm) (j := 1) (x := .slice A4 (i + 1) c4) rfl rfl rfl rfl rfl HM6.out (by simp [mcells]) (by kernel_rfl) rfl ?_; intro w7 hA hb ho hs; have N7 := Aside0.mk (Kd.N_step N6.out (fun k hk _ => ho k (by rcases hk with hk | hk; (intro e; subst e; have := S3.out.lm; omega); (have := blk_lt S3.out.m; omega)))); have FR7 : Aside0 (Fr wr w7 (fun k => L k = 2 ∨ k = gm)) := ⟨(FR6.out.mono (fun k hk => .inl hk)).then_ (Fr.stored (S := fun k => k = gm) hb ho hs rfl) (fun k hk => .inl (.inr hk))⟩; have S7 := Aside0.mk (S3.out.app_I N7.out hA FR7.out); have zc : w7.cell? ⟨gc, 0, none⟩ = some (.int .i64 (kc ks 0 i : Int)) := blk_cell S7.out.cc 0; clear hA hb ho hs N6 FR6 HM6 N7 FR7 HBl GLL)
              | ((with_reducible refine gate_store (p := 71) rfl ?_); refine storeCell_event (g := gc) (j := 0) (x := .int .i64 (wrap64 ((kc ks 0 i : Int) + 1))) rfl rfl rfl rfl rfl S7.out.cc (by simp [ccells]) (by kernel_rfl) rfl ?_; intro w8 hA hb ho hs; rw [wc, kc_yes KD.out] at hA; have S8 := Aside0.mk (S7.out.count (m0 := kc ks 0 (i + 1)) (m1 := kc ks 1 i) (m2 := kc ks 2 i) (m3 := kc ks 3 i) hA (Fr.stored (S := fun k => k = gc) hb ho hs rfl)); clear hA hb ho hs S7)
              | ((with_reducible refine gate_dst (N := 76) rfl ?_); refine lit_event ?hg (N := 76) ?hd (cs := #[.int .i64 (i : Int)]) (t := 3) (n := 1) ?hr ?_; (case hd => rfl); (case hg => rfl); (case hr => first | (go_simp; done) | (go_simp; rfl)); intro gl hggl wl hA hb; have HBl := Aside0.mk hb; have GLL := Aside0.mk (show w8.heap.size ≤ gl by rw [hggl]; exact Nat.le_refl _); have FO : Aside0 (Kd.F (Kd.int .i64) wl (fun k => w8.heap.size ≤ k) (some ⟨gl, 0, none⟩) 1 [(i : Int)]) := ⟨F_one (cs := [.int .i64 (i : Int)]) hA GLL.out FK_i⟩; have NLT := Aside0.mk (Kd.N_lt S8.out.f); clear hggl hb hA)
              | ((with_reducible refine gate_dst (N := 77) rfl ?_); refine Kd.N_append_rows (Kd.int .i64) (w0 := wl) 0 rfl (.tmp 74) (.tmp 76) 34 3 (.int .i64 0) 8 rfl hu34 (by kernel_rfl) rfl (by decide) (by decide) (.slice Af (kc ks 0 i) cf) (plc ks 0 i) [(i : Int)] (some ⟨gl, 0, none⟩) 1 1 (fun k => (relab L wr.heap.size 2) k = 5 ∨ w8.heap.size ≤ k) (fun k => w8.heap.size ≤ k) ?h1 ?h2 (Kd.N_mono (Kd.N_below S8.out.f HBl.out) (fun _ h => .inl h)) FO.out (fun k hk => ⟨.inr hk, fun e => by have := NLT.out k e.symm; omega⟩) (fun k hk => .inr (Nat.le_trans HBl.out.size hk)) (Below.refl _ _) (Nat.zero_le _) (by have h1 := kc_le ks 0 i; unfold kc at h1; have h2 := HL2.out; omega) ?_; (case h1 => first | rfl | (simp; done)); (case h2 => rfl); intro v6 w6 hN6 hb6 hgr hat; rw [plc_yes KD.out] at hN6; have S9 := Aside0.mk (S8.out.app_f hN6 (app_fr S8.out.f HBl.out hgr)); clear hN6 hb6 hgr hat FO NLT HBl GLL))
            go_roundg (ks.length - (i + 1))
            case measure => have := I2.out; have := HLT.out; omega
            case rel => exact ⟨i + 1, _, _, _, _, _, by have := HLT.out; omega, rfl, rfl, by go_num, by rw [kc_no (ks := ks) (K := 1) (i := i) (by rw [KD.out]; decide), kc_no (ks := ks) (K := 2) (i := i) (by rw [KD.out]; decide), kc_no (ks := ks) (K := 3) (i := i) (by rw [KD.out]; decide), plc_no (ks := ks) (K := 3) (i := i) (by rw [KD.out]; decide)]; exact S9.out⟩
          · have hke0 : Go.bits .and .i64 X 3 = 1 := hke
            have KD := Aside0.mk (show kd ks i = 1 from hkd)
            have FUL := FULL_succ ks i
            rw [KD.out] at FUL
            have FULA := Aside0.mk FUL
            have wc : wrap64 ((kc ks 1 i : Int) + 1) = (kc ks 1 i : Int) + 1 := by have := kc_le ks 1 i; have := HL2.out; unfold wrap64; omega
            clear hke hkd FUL
            go_wp2_with (first
              | ((with_reducible refine gate_dst (N := 64) rfl ?_); refine lit_event ?hg (N := 64) ?hd (cs := #[.string ⟨#[]⟩, .string ⟨#[]⟩, .int .i64 1, .int .i64 (i : Int), .bool false, .int .i64 0, .int .i64 0]) (t := 90) (n := 1) ?hr ?_; (case hd => rfl); (case hg => rfl); (case hr => first | (go_simp; done) | (go_simp; rfl)); intro gl hggl wl hA hb; have HBl := Aside0.mk hb; have GLL := Aside0.mk (show wr.heap.size ≤ gl by rw [hggl]; exact Nat.le_refl _); have FO : Aside0 (Kd.F k90 wl (fun k => wr.heap.size ≤ k) (some ⟨gl, 0, none⟩) 1 [(⟨⟨#[]⟩, ⟨#[]⟩, 1, (i : Int), false, ⟨0, 0⟩⟩ : S90)]) := ⟨F_one (cs := [.string ⟨#[]⟩, .string ⟨#[]⟩, .int .i64 1, .int .i64 (i : Int), .bool false, .int .i64 0, .int .i64 0]) hA GLL.out FK_90⟩; have NLT := Aside0.mk (Kd.N_lt S3.out.I); clear hggl hb hA)
              | ((with_reducible refine gate_dst (N := 65) rfl ?_); refine Kd.N_append_rows k90 (w0 := wl) 0 rfl (.tmp 60) (.tmp 64) 61 90 (.agg #[.string ⟨#[]⟩, .string ⟨#[]⟩, .int .i64 0, .int .i64 0, .bool false, .int .i64 0, .int .i64 0]) 72 rfl hu61 (by kernel_rfl) rfl (by decide) (by decide) (.slice AI i cI) (FULL ks i) [(⟨⟨#[]⟩, ⟨#[]⟩, 1, (i : Int), false, ⟨0, 0⟩⟩ : S90)] (some ⟨gl, 0, none⟩) 1 1 (fun k => L k = 2 ∨ wr.heap.size ≤ k) (fun k => wr.heap.size ≤ k) ?h1 ?h2 (Kd.N_mono (Kd.N_below S3.out.I HBl.out) (fun _ h => .inl h)) FO.out (fun k hk => ⟨.inr hk, fun e => by have := NLT.out k e.symm; omega⟩) (fun k hk => .inr (Nat.le_trans HBl.out.size hk)) (Below.refl _ _) (Nat.zero_le _) (by have := HL2.out; rw [FULL_len]; omega) ?_; (case h1 => first | rfl | (simp; done)); (case h2 => rfl); intro v6 w6 hN6 hb6 hgr hat; rw [FULA.out] at hN6; obtain ⟨A4, c4, hv4⟩ := Kd.N_slice hN6; rw [FULL_len] at hv4; subst hv4; have N6 := Aside0.mk hN6; have NGM : Aside0 (some gm ≠ (.slice AI i cI : Value).ownBlock) := ⟨fun e => by have h5 : L gm = 2 := S3.out.I.1 gm e.symm; have := S3.out.lm; omega⟩; have HM6 := Aside0.mk (blk_grown (blk_below S3.out.m HBl.out) hgr NGM.out); have FR6 : Aside0 (Fr wr w6 (fun k => L k = 2)) := ⟨app_fr S3.out.I HBl.out hgr⟩; clear hN6 hb6 hgr hat FO NLT NGM)
              | ((with_reducible refine gate_store (p := 66) rfl ?_); refine storeCell_event (g := gm) (j := 1) (x := .slice A4 (i + 1) c4) rfl rfl rfl rfl rfl HM6.out (by simp [mcells]) (by kernel_rfl) rfl ?_; intro w7 hA hb ho hs; have N7 := Aside0.mk (Kd.N_step N6.out (fun k hk _ => ho k (by rcases hk with hk | hk; (intro e; subst e; have := S3.out.lm; omega); (have := blk_lt S3.out.m; omega)))); have FR7 : Aside0 (Fr wr w7 (fun k => L k = 2 ∨ k = gm)) := ⟨(FR6.out.mono (fun k hk => .inl hk)).then_ (Fr.stored (S := fun k => k = gm) hb ho hs rfl) (fun k hk => .inl (.inr hk))⟩; have S7 := Aside0.mk (S3.out.app_I N7.out hA FR7.out); have zc : w7.cell? ⟨gc, 1, none⟩ = some (.int .i64 (kc ks 1 i : Int)) := blk_cell S7.out.cc 1; clear hA hb ho hs N6 FR6 HM6 N7 FR7 HBl GLL)
              | ((with_reducible refine gate_store (p := 71) rfl ?_); refine storeCell_event (g := gc) (j := 1) (x := .int .i64 (wrap64 ((kc ks 1 i : Int) + 1))) rfl rfl rfl rfl rfl S7.out.cc (by simp [ccells]) (by kernel_rfl) rfl ?_; intro w8 hA hb ho hs; rw [wc, kc_yes KD.out] at hA; have S8 := Aside0.mk (S7.out.count (m0 := kc ks 0 i) (m1 := kc ks 1 (i + 1)) (m2 := kc ks 2 i) (m3 := kc ks 3 i) hA (Fr.stored (S := fun k => k = gc) hb ho hs rfl)); clear hA hb ho hs S7))
            go_roundg (ks.length - (i + 1))
            case measure => have := I2.out; have := HLT.out; omega
            case rel => exact ⟨i + 1, _, _, _, _, _, by have := HLT.out; omega, rfl, rfl, by go_num, by rw [kc_no (ks := ks) (K := 0) (i := i) (by rw [KD.out]; decide), kc_no (ks := ks) (K := 2) (i := i) (by rw [KD.out]; decide), kc_no (ks := ks) (K := 3) (i := i) (by rw [KD.out]; decide), plc_no (ks := ks) (K := 0) (i := i) (by rw [KD.out]; decide), plc_no (ks := ks) (K := 3) (i := i) (by rw [KD.out]; decide)]; exact S8.out⟩
          · have hke0 : Go.bits .and .i64 X 3 = 2 := hke
            have KD := Aside0.mk (show kd ks i = 2 from hkd)
            have FUL := FULL_succ ks i
            rw [KD.out] at FUL
            have FULA := Aside0.mk FUL
            have wc : wrap64 ((kc ks 2 i : Int) + 1) = (kc ks 2 i : Int) + 1 := by have := kc_le ks 2 i; have := HL2.out; unfold wrap64; omega
            clear hke hkd FUL
            go_wp2_with (first
              | ((with_reducible refine gate_dst (N := 64) rfl ?_); refine lit_event ?hg (N := 64) ?hd (cs := #[.string ⟨#[]⟩, .string ⟨#[]⟩, .int .i64 2, .int .i64 (i : Int), .bool false, .int .i64 0, .int .i64 0]) (t := 90) (n := 1) ?hr ?_; (case hd => rfl); (case hg => rfl); (case hr => first | (go_simp; done) | (go_simp; rfl)); intro gl hggl wl hA hb; have HBl := Aside0.mk hb; have GLL := Aside0.mk (show wr.heap.size ≤ gl by rw [hggl]; exact Nat.le_refl _); have FO : Aside0 (Kd.F k90 wl (fun k => wr.heap.size ≤ k) (some ⟨gl, 0, none⟩) 1 [(⟨⟨#[]⟩, ⟨#[]⟩, 2, (i : Int), false, ⟨0, 0⟩⟩ : S90)]) := ⟨F_one (cs := [.string ⟨#[]⟩, .string ⟨#[]⟩, .int .i64 2, .int .i64 (i : Int), .bool false, .int .i64 0, .int .i64 0]) hA GLL.out FK_90⟩; have NLT := Aside0.mk (Kd.N_lt S3.out.I); clear hggl hb hA)
              | ((with_reducible refine gate_dst (N := 65) rfl ?_); refine Kd.N_append_rows k90 (w0 := wl) 0 rfl (.tmp 60) (.tmp 64) 61 90 (.agg #[.string ⟨#[]⟩, .string ⟨#[]⟩, .int .i64 0, .int .i64 0, .bool false, .int .i64 0, .int .i64 0]) 72 rfl hu61 (by kernel_rfl) rfl (by decide) (by decide) (.slice AI i cI) (FULL ks i) [(⟨⟨#[]⟩, ⟨#[]⟩, 2, (i : Int), false, ⟨0, 0⟩⟩ : S90)] (some ⟨gl, 0, none⟩) 1 1 (fun k => L k = 2 ∨ wr.heap.size ≤ k) (fun k => wr.heap.size ≤ k) ?h1 ?h2 (Kd.N_mono (Kd.N_below S3.out.I HBl.out) (fun _ h => .inl h)) FO.out (fun k hk => ⟨.inr hk, fun e => by have := NLT.out k e.symm; omega⟩) (fun k hk => .inr (Nat.le_trans HBl.out.size hk)) (Below.refl _ _) (Nat.zero_le _) (by have := HL2.out; rw [FULL_len]; omega) ?_; (case h1 => first | rfl | (simp; done)); (case h2 => rfl); intro v6 w6 hN6 hb6 hgr hat; rw [FULA.out] at hN6; obtain ⟨A4, c4, hv4⟩ := Kd.N_slice hN6; rw [FULL_len] at hv4; subst hv4; have N6 := Aside0.mk hN6; have NGM : Aside0 (some gm ≠ (.slice AI i cI : Value).ownBlock) := ⟨fun e => by have h5 : L gm = 2 := S3.out.I.1 gm e.symm; have := S3.out.lm; omega⟩; have HM6 := Aside0.mk (blk_grown (blk_below S3.out.m HBl.out) hgr NGM.out); have FR6 : Aside0 (Fr wr w6 (fun k => L k = 2)) := ⟨app_fr S3.out.I HBl.out hgr⟩; clear hN6 hb6 hgr hat FO NLT NGM)
              | ((with_reducible refine gate_store (p := 66) rfl ?_); refine storeCell_event (g := gm) (j := 1) (x := .slice A4 (i + 1) c4) rfl rfl rfl rfl rfl HM6.out (by simp [mcells]) (by kernel_rfl) rfl ?_; intro w7 hA hb ho hs; have N7 := Aside0.mk (Kd.N_step N6.out (fun k hk _ => ho k (by rcases hk with hk | hk; (intro e; subst e; have := S3.out.lm; omega); (have := blk_lt S3.out.m; omega)))); have FR7 : Aside0 (Fr wr w7 (fun k => L k = 2 ∨ k = gm)) := ⟨(FR6.out.mono (fun k hk => .inl hk)).then_ (Fr.stored (S := fun k => k = gm) hb ho hs rfl) (fun k hk => .inl (.inr hk))⟩; have S7 := Aside0.mk (S3.out.app_I N7.out hA FR7.out); have zc : w7.cell? ⟨gc, 2, none⟩ = some (.int .i64 (kc ks 2 i : Int)) := blk_cell S7.out.cc 2; clear hA hb ho hs N6 FR6 HM6 N7 FR7 HBl GLL)
              | ((with_reducible refine gate_store (p := 71) rfl ?_); refine storeCell_event (g := gc) (j := 2) (x := .int .i64 (wrap64 ((kc ks 2 i : Int) + 1))) rfl rfl rfl rfl rfl S7.out.cc (by simp [ccells]) (by kernel_rfl) rfl ?_; intro w8 hA hb ho hs; rw [wc, kc_yes KD.out] at hA; have S8 := Aside0.mk (S7.out.count (m0 := kc ks 0 i) (m1 := kc ks 1 i) (m2 := kc ks 2 (i + 1)) (m3 := kc ks 3 i) hA (Fr.stored (S := fun k => k = gc) hb ho hs rfl)); clear hA hb ho hs S7))
            go_roundg (ks.length - (i + 1))
            case measure => have := I2.out; have := HLT.out; omega
            case rel => exact ⟨i + 1, _, _, _, _, _, by have := HLT.out; omega, rfl, rfl, by go_num, by rw [kc_no (ks := ks) (K := 0) (i := i) (by rw [KD.out]; decide), kc_no (ks := ks) (K := 1) (i := i) (by rw [KD.out]; decide), kc_no (ks := ks) (K := 3) (i := i) (by rw [KD.out]; decide), plc_no (ks := ks) (K := 0) (i := i) (by rw [KD.out]; decide), plc_no (ks := ks) (K := 3) (i := i) (by rw [KD.out]; decide)]; exact S8.out⟩
          · have hke0 : Go.bits .and .i64 X 3 = 3 := hke
            have KD := Aside0.mk (show kd ks i = 3 from hkd)
            have FUL := FULL_succ ks i
            rw [KD.out] at FUL
            have FULA := Aside0.mk FUL
            have wc : wrap64 ((kc ks 3 i : Int) + 1) = (kc ks 3 i : Int) + 1 := by have := kc_le ks 3 i; have := HL2.out; unfold wrap64; omega
            clear hke hkd FUL
            go_wp2_with (first
              | ((with_reducible refine gate_dst (N := 64) rfl ?_); refine lit_event ?hg (N := 64) ?hd (cs := #[.string ⟨#[]⟩, .string ⟨#[]⟩, .int .i64 3, .int .i64 (i : Int), .bool false, .int .i64 0, .int .i64 0]) (t := 90) (n := 1) ?hr ?_; (case hd => rfl); (case hg => rfl); (case hr => first | (go_simp; done) | (go_simp; rfl)); intro gl hggl wl hA hb; have HBl := Aside0.mk hb; have GLL := Aside0.mk (show wr.heap.size ≤ gl by rw [hggl]; exact Nat.le_refl _); have FO : Aside0 (Kd.F k90 wl (fun k => wr.heap.size ≤ k) (some ⟨gl, 0, none⟩) 1 [(⟨⟨#[]⟩, ⟨#[]⟩, 3, (i : Int), false, ⟨0, 0⟩⟩ : S90)]) := ⟨F_one (cs := [.string ⟨#[]⟩, .string ⟨#[]⟩, .int .i64 3, .int .i64 (i : Int), .bool false, .int .i64 0, .int .i64 0]) hA GLL.out FK_90⟩; have NLT := Aside0.mk (Kd.N_lt S3.out.I); clear hggl hb hA)
              | ((with_reducible refine gate_dst (N := 65) rfl ?_); refine Kd.N_append_rows k90 (w0 := wl) 0 rfl (.tmp 60) (.tmp 64) 61 90 (.agg #[.string ⟨#[]⟩, .string ⟨#[]⟩, .int .i64 0, .int .i64 0, .bool false, .int .i64 0, .int .i64 0]) 72 rfl hu61 (by kernel_rfl) rfl (by decide) (by decide) (.slice AI i cI) (FULL ks i) [(⟨⟨#[]⟩, ⟨#[]⟩, 3, (i : Int), false, ⟨0, 0⟩⟩ : S90)] (some ⟨gl, 0, none⟩) 1 1 (fun k => L k = 2 ∨ wr.heap.size ≤ k) (fun k => wr.heap.size ≤ k) ?h1 ?h2 (Kd.N_mono (Kd.N_below S3.out.I HBl.out) (fun _ h => .inl h)) FO.out (fun k hk => ⟨.inr hk, fun e => by have := NLT.out k e.symm; omega⟩) (fun k hk => .inr (Nat.le_trans HBl.out.size hk)) (Below.refl _ _) (Nat.zero_le _) (by have := HL2.out; rw [FULL_len]; omega) ?_; (case h1 => first | rfl | (simp; done)); (case h2 => rfl); intro v6 w6 hN6 hb6 hgr hat; rw [FULA.out] at hN6; obtain ⟨A4, c4, hv4⟩ := Kd.N_slice hN6; rw [FULL_len] at hv4; subst hv4; have N6 := Aside0.mk hN6; have NGM : Aside0 (some gm ≠ (.slice AI i cI : Value).ownBlock) := ⟨fun e => by have h5 : L gm = 2 := S3.out.I.1 gm e.symm; have := S3.out.lm; omega⟩; have HM6 := Aside0.mk (blk_grown (blk_below S3.out.m HBl.out) hgr NGM.out); have FR6 : Aside0 (Fr wr w6 (fun k => L k = 2)) := ⟨app_fr S3.out.I HBl.out hgr⟩; clear hN6 hb6 hgr hat FO NLT NGM)
              | ((with_reducible refine gate_store (p := 66) rfl ?_); refine storeCell_event (g := gm) (j := 1) (x := .slice A4 (i + 1) c4) rfl rfl rfl rfl rfl HM6.out (by simp [mcells]) (by kernel_rfl) rfl ?_; intro w7 hA hb ho hs; have N7 := Aside0.mk (Kd.N_step N6.out (fun k hk _ => ho k (by rcases hk with hk | hk; (intro e; subst e; have := S3.out.lm; omega); (have := blk_lt S3.out.m; omega)))); have FR7 : Aside0 (Fr wr w7 (fun k => L k = 2 ∨ k = gm)) := ⟨(FR6.out.mono (fun k hk => .inl hk)).then_ (Fr.stored (S := fun k => k = gm) hb ho hs rfl) (fun k hk => .inl (.inr hk))⟩; have S7 := Aside0.mk (S3.out.app_I N7.out hA FR7.out); have zc : w7.cell? ⟨gc, 3, none⟩ = some (.int .i64 (kc ks 3 i : Int)) := blk_cell S7.out.cc 3; clear hA hb ho hs N6 FR6 HM6 N7 FR7 HBl GLL)
              | ((with_reducible refine gate_store (p := 71) rfl ?_); refine storeCell_event (g := gc) (j := 3) (x := .int .i64 (wrap64 ((kc ks 3 i : Int) + 1))) rfl rfl rfl rfl rfl S7.out.cc (by simp [ccells]) (by kernel_rfl) rfl ?_; intro w8 hA hb ho hs; rw [wc, kc_yes KD.out] at hA; have S8 := Aside0.mk (S7.out.count (m0 := kc ks 0 i) (m1 := kc ks 1 i) (m2 := kc ks 2 i) (m3 := kc ks 3 (i + 1)) hA (Fr.stored (S := fun k => k = gc) hb ho hs rfl)); clear hA hb ho hs S7)
              | ((with_reducible refine gate_dst (N := 82) rfl ?_); refine lit_event ?hg (N := 82) ?hd (cs := #[.int .i64 (i : Int)]) (t := 3) (n := 1) ?hr ?_; (case hd => rfl); (case hg => rfl); (case hr => first | (go_simp; done) | (go_simp; rfl)); intro gl hggl wl hA hb; have HBl := Aside0.mk hb; have GLL := Aside0.mk (show w8.heap.size ≤ gl by rw [hggl]; exact Nat.le_refl _); have FO : Aside0 (Kd.F (Kd.int .i64) wl (fun k => w8.heap.size ≤ k) (some ⟨gl, 0, none⟩) 1 [(i : Int)]) := ⟨F_one (cs := [.int .i64 (i : Int)]) hA GLL.out FK_i⟩; have NLT := Aside0.mk (Kd.N_lt S8.out.t); clear hggl hb hA)
              | ((with_reducible refine gate_dst (N := 83) rfl ?_); refine Kd.N_append_rows (Kd.int .i64) (w0 := wl) 0 rfl (.tmp 80) (.tmp 82) 34 3 (.int .i64 0) 8 rfl hu34 (by kernel_rfl) rfl (by decide) (by decide) (.slice At (kc ks 3 i) ct) (plc ks 3 i) [(i : Int)] (some ⟨gl, 0, none⟩) 1 1 (fun k => (relab L wr.heap.size 2) k = 6 ∨ w8.heap.size ≤ k) (fun k => w8.heap.size ≤ k) ?h1 ?h2 (Kd.N_mono (Kd.N_below S8.out.t HBl.out) (fun _ h => .inl h)) FO.out (fun k hk => ⟨.inr hk, fun e => by have := NLT.out k e.symm; omega⟩) (fun k hk => .inr (Nat.le_trans HBl.out.size hk)) (Below.refl _ _) (Nat.zero_le _) (by have h1 := kc_le ks 3 i; unfold kc at h1; have h2 := HL2.out; omega) ?_; (case h1 => first | rfl | (simp; done)); (case h2 => rfl); intro v6 w6 hN6 hb6 hgr hat; rw [plc_yes KD.out] at hN6; have S9 := Aside0.mk (S8.out.app_t hN6 (app_fr S8.out.t HBl.out hgr)); clear hN6 hb6 hgr hat FO NLT HBl GLL))
            go_roundg (ks.length - (i + 1))
            case measure => have := I2.out; have := HLT.out; omega
            case rel => exact ⟨i + 1, _, _, _, _, _, by have := HLT.out; omega, rfl, rfl, by go_num, by rw [kc_no (ks := ks) (K := 0) (i := i) (by rw [KD.out]; decide), kc_no (ks := ks) (K := 1) (i := i) (by rw [KD.out]; decide), kc_no (ks := ks) (K := 2) (i := i) (by rw [KD.out]; decide), plc_no (ks := ks) (K := 0) (i := i) (by rw [KD.out]; decide)]; exact S9.out⟩
        · have hie : i = ks.length := by have := I2.out; omega
          subst hie
          have HN20 : Aside0 (ks.length ≤ 20) := ⟨by have := HN.out; omega⟩
          have S0 := S3
          clear S3 hlt I2
          go_wp2
          go_loopg [7, 8, 12] q (fun n v7 v8 v12 wr => Rel3 w ks gm gc (ks.length) q n v7 v8 v12 wr)
          case atStart => first | exact ⟨0, _, _, _, _, _, _, _, by omega, rfl, rfl, rfl, by rw [show FS 0 = [] from rfl, show TS 0 = [] from rfl, List.append_nil, List.append_nil]; exact S0.out⟩ | exact ⟨0, _, _, _, _, _, _, _, by omega, rfl, rfl, rfl, by rw [show FS 0 = [] from rfl, show TS 0 = [] from rfl, List.append_nil, List.append_nil]; exact S0.out.call (below_drew (Below.refl _ _))⟩
          case round =>
            clear S0
            obtain ⟨i, L, vT, vI, vF, vG, vf, vt, hi, rfl, rfl, rfl, hS⟩ := hrel
            have I3 := Aside0.mk hi
            have S3 := Aside0.mk hS
            obtain ⟨Af, cf, hvf⟩ := Kd.N_slice hS.f
            rw [lenF] at hvf
            obtain ⟨At, ct, hvt⟩ := Kd.N_slice hS.t
            rw [lenT] at hvt
            obtain ⟨AF, cF, hvF⟩ := Kd.N_slice hS.F
            rw [FS_len] at hvF
            obtain ⟨AG, cG, hvG⟩ := Kd.N_slice hS.G
            rw [GS_len] at hvG
            subst hvf hvt hvF hvG
            have hown := HO.out
            clear hi hS
            by_cases hlt : i < q
            · have dl1 : decide (i < q) = true := decide_eq_true hlt
              have dl2 : decide ((i : Int) < (q : Int)) = true := decide_eq_true (by omega)
              have HLT := Aside0.mk hlt
              have hi8 : i < 8 := by have := HQ.out; omega
              have w1 : wrap64 ((i : Int) + 1) = (i : Int) + 1 := by unfold wrap64; omega
              have w30 : wrap64 (30 + (i : Int)) = 30 + (i : Int) := by unfold wrap64; omega
              have w100 : wrap64 (100 + (i : Int)) = 100 + (i : Int) := by unfold wrap64; omega
              have HI8 := Aside0.mk hi8
              have z2 : wr.cell? ⟨gm, 2, none⟩ = some (.slice AF i cF) := blk_cell S3.out.m 2
              clear hlt hi8
              go_wp2_with (first
                | ((with_reducible refine gate_dst (N := 94) rfl ?_); refine lit_event ?hg (N := 94) ?hd (cs := #[.int .i64 (30 + (i : Int))]) (t := 3) (n := 1) ?hr ?_; (case hd => rfl); (case hg => rfl); (case hr => first | (go_simp; done) | (go_simp; rfl)); intro gl hggl wl hA hb; have HBl := Aside0.mk hb; have GLL := Aside0.mk (show wr.heap.size ≤ gl by rw [hggl]; exact Nat.le_refl _); have FO : Aside0 (Kd.F (Kd.int .i64) wl (fun k => wr.heap.size ≤ k) (some ⟨gl, 0, none⟩) 1 [30 + (i : Int)]) := ⟨F_one (cs := [.int .i64 (30 + (i : Int))]) hA GLL.out FK_i⟩; have NLT := Aside0.mk (Kd.N_lt S3.out.F); clear hggl hb hA)
                | ((with_reducible refine gate_dst (N := 95) rfl ?_); refine Kd.N_append_rows (Kd.int .i64) (w0 := wl) 0 rfl (.tmp 91) (.tmp 94) 34 3 (.int .i64 0) 8 rfl hu34 (by kernel_rfl) rfl (by decide) (by decide) (.slice AF i cF) (FS i) [30 + (i : Int)] (some ⟨gl, 0, none⟩) 1 1 (fun k => L k = 3 ∨ wr.heap.size ≤ k) (fun k => wr.heap.size ≤ k) ?h1 ?h2 (Kd.N_mono (Kd.N_below S3.out.F HBl.out) (fun _ h => .inl h)) FO.out (fun k hk => ⟨.inr hk, fun e => by have := NLT.out k e.symm; omega⟩) (fun k hk => .inr (Nat.le_trans HBl.out.size hk)) (Below.refl _ _) (Nat.zero_le _) (by have := HI8.out; rw [FS_len]; omega) ?_; (case h1 => first | rfl | (simp; done)); (case h2 => rfl); intro v6 w6 hN6 hb6 hgr hat; rw [FS_succ] at hN6; obtain ⟨A4, c4, hv4⟩ := Kd.N_slice hN6; rw [FS_len] at hv4; subst hv4; have N6 := Aside0.mk hN6; have NGM : Aside0 (some gm ≠ (.slice AF i cF : Value).ownBlock) := ⟨fun e => by have h5 : L gm = 3 := S3.out.F.1 gm e.symm; have := S3.out.lm; omega⟩; have HM6 := Aside0.mk (blk_grown (blk_below S3.out.m HBl.out) hgr NGM.out); have FR6 : Aside0 (Fr wr w6 (fun k => L k = 3)) := ⟨app_fr S3.out.F HBl.out hgr⟩; clear hN6 hb6 hgr hat FO NLT NGM)
                | ((with_reducible refine gate_store (p := 96) rfl ?_); refine storeCell_event (g := gm) (j := 2) (x := .slice A4 (i + 1) c4) rfl rfl rfl rfl rfl HM6.out (by simp [mcells]) (by kernel_rfl) rfl ?_; intro w7 hA hb ho hs; have N7 := Aside0.mk (Kd.N_step N6.out (fun k hk _ => ho k (by rcases hk with hk | hk; (intro e; subst e; have := S3.out.lm; omega); (have := blk_lt S3.out.m; omega)))); have FR7 : Aside0 (Fr wr w7 (fun k => L k = 3 ∨ k = gm)) := ⟨(FR6.out.mono (fun k hk => .inl hk)).then_ (Fr.stored (S := fun k => k = gm) hb ho hs rfl) (fun k hk => .inl (.inr hk))⟩; have S7 := Aside0.mk (S3.out.app_F N7.out hA FR7.out); have zg : w7.cell? ⟨gm, 5, none⟩ = some (.slice AG i cG) := blk_cell S7.out.m 5; clear hA hb ho hs N6 FR6 HM6 N7 FR7 HBl GLL)
                | ((with_reducible refine gate_dst (N := 102) rfl ?_); refine lit_event ?hg (N := 102) ?hd (cs := #[.int .i64 (100 + (i : Int)), .bool true, .slice none 0 0]) (t := 93) (n := 1) ?hr ?_; (case hd => rfl); (case hg => rfl); (case hr => first | (go_simp; done) | (go_simp; rfl)); intro gl hggl wl hA hb; have HBl := Aside0.mk hb; have GLL := Aside0.mk (show w7.heap.size ≤ gl by rw [hggl]; exact Nat.le_refl _); have FO : Aside0 (Kd.F k93 wl (fun k => w7.heap.size ≤ k) (some ⟨gl, 0, none⟩) 1 [(⟨100 + (i : Int), true, []⟩ : S93)]) := ⟨F_one (cs := [.int .i64 (100 + (i : Int)), .bool true, .slice none 0 0]) hA GLL.out FK_93⟩; have NLT := Aside0.mk (Kd.N_lt S7.out.G); clear hggl hb hA)
                | ((with_reducible refine gate_dst (N := 103) rfl ?_); refine Kd.N_append_rows k93 (w0 := wl) 0 rfl (.tmp 98) (.tmp 102) 63 93 (.agg #[.int .i64 0, .bool false, .slice none 0 0]) 40 rfl hu63 (by kernel_rfl) rfl (by decide) (by decide) (.slice AG i cG) (GS i) [(⟨100 + (i : Int), true, []⟩ : S93)] (some ⟨gl, 0, none⟩) 1 1 (fun k => (relab L wr.heap.size 3) k = 4 ∨ w7.heap.size ≤ k) (fun k => w7.heap.size ≤ k) ?h1 ?h2 (Kd.N_mono (Kd.N_below S7.out.G HBl.out) (fun _ h => .inl h)) FO.out (fun k hk => ⟨.inr hk, fun e => by have := NLT.out k e.symm; omega⟩) (fun k hk => .inr (Nat.le_trans HBl.out.size hk)) (Below.refl _ _) (Nat.zero_le _) (by have := HI8.out; rw [GS_len]; omega) ?_; (case h1 => first | rfl | (simp; done)); (case h2 => rfl); intro v6 w6 hN6 hb6 hgr hat; rw [GS_succ] at hN6; obtain ⟨A4, c4, hv4⟩ := Kd.N_slice hN6; rw [GS_len] at hv4; subst hv4; have N6 := Aside0.mk hN6; have NGM : Aside0 (some gm ≠ (.slice AG i cG : Value).ownBlock) := ⟨fun e => by have h5 : (relab L wr.heap.size 3) gm = 4 := S7.out.G.1 gm e.symm; have := S7.out.lm; omega⟩; have HM6 := Aside0.mk (blk_grown (blk_below S7.out.m HBl.out) hgr NGM.out); have FR6 : Aside0 (Fr w7 w6 (fun k => (relab L wr.heap.size 3) k = 4)) := ⟨app_fr S7.out.G HBl.out hgr⟩; clear hN6 hb6 hgr hat FO NLT NGM)
                | ((with_reducible refine gate_store (p := 104) rfl ?_); refine storeCell_event (g := gm) (j := 5) (x := .slice A4 (i + 1) c4) rfl rfl rfl rfl rfl HM6.out (by simp [mcells]) (by kernel_rfl) rfl ?_; intro w8 hA hb ho hs; have N7 := Aside0.mk (Kd.N_step N6.out (fun k hk _ => ho k (by rcases hk with hk | hk; (intro e; subst e; have := S7.out.lm; omega); (have := blk_lt S7.out.m; omega)))); have FR7 : Aside0 (Fr w7 w8 (fun k => (relab L wr.heap.size 3) k = 4 ∨ k = gm)) := ⟨(FR6.out.mono (fun k hk => .inl hk)).then_ (Fr.stored (S := fun k => k = gm) hb ho hs rfl) (fun k hk => .inl (.inr hk))⟩; have S8 := Aside0.mk (S7.out.app_G N7.out hA FR7.out); clear hA hb ho hs N6 FR6 HM6 N7 FR7 HBl GLL)
                | ((with_reducible refine gate_dst (N := 108) rfl ?_); refine lit_event ?hg (N := 108) ?hd (cs := #[.int .i64 (30 + (i : Int))]) (t := 3) (n := 1) ?hr ?_; (case hd => rfl); (case hg => rfl); (case hr => first | (go_simp; done) | (go_simp; rfl)); intro gl hggl wl hA hb; have HBl := Aside0.mk hb; have GLL := Aside0.mk (show w8.heap.size ≤ gl by rw [hggl]; exact Nat.le_refl _); have FO : Aside0 (Kd.F (Kd.int .i64) wl (fun k => w8.heap.size ≤ k) (some ⟨gl, 0, none⟩) 1 [30 + (i : Int)]) := ⟨F_one (cs := [.int .i64 (30 + (i : Int))]) hA GLL.out FK_i⟩; have NLT := Aside0.mk (Kd.N_lt S8.out.f); clear hggl hb hA)
                | ((with_reducible refine gate_dst (N := 109) rfl ?_); refine Kd.N_append_rows (Kd.int .i64) (w0 := wl) 0 rfl (.tmp 105) (.tmp 108) 34 3 (.int .i64 0) 8 rfl hu34 (by kernel_rfl) rfl (by decide) (by decide) (.slice Af (kc ks 0 (ks.length) + i) cf) (plc ks 0 (ks.length) ++ FS i) [30 + (i : Int)] (some ⟨gl, 0, none⟩) 1 1 (fun k => (relab (relab L wr.heap.size 3) w7.heap.size 4) k = 5 ∨ w8.heap.size ≤ k) (fun k => w8.heap.size ≤ k) ?h1 ?h2 (Kd.N_mono (Kd.N_below S8.out.f HBl.out) (fun _ h => .inl h)) FO.out (fun k hk => ⟨.inr hk, fun e => by have := NLT.out k e.symm; omega⟩) (fun k hk => .inr (Nat.le_trans HBl.out.size hk)) (Below.refl _ _) (Nat.zero_le _) (by have h1 := kc_le ks 0 (ks.length); have h2 := HN20.out; have h3 := HI8.out; rw [lenF]; omega) ?_; (case h1 => first | rfl | (simp; done)); (case h2 => rfl); intro v6 w6 hN6 hb6 hgr hat; rw [appFS] at hN6; have S9 := Aside0.mk (S8.out.app_f hN6 (app_fr S8.out.f HBl.out hgr)); clear hN6 hb6 hgr hat FO NLT HBl GLL)
                | ((with_reducible refine gate_dst (N := 113) rfl ?_); refine lit_event ?hg (N := 113) ?hd (cs := #[.int .i64 (100 + (i : Int))]) (t := 3) (n := 1) ?hr ?_; (case hd => rfl); (case hg => rfl); (case hr => first | (go_simp; done) | (go_simp; rfl)); intro gl hggl wl hA hb; have HBl := Aside0.mk hb; have GLL := Aside0.mk (show w6.heap.size ≤ gl by rw [hggl]; exact Nat.le_refl _); have FO : Aside0 (Kd.F (Kd.int .i64) wl (fun k => w6.heap.size ≤ k) (some ⟨gl, 0, none⟩) 1 [100 + (i : Int)]) := ⟨F_one (cs := [.int .i64 (100 + (i : Int))]) hA GLL.out FK_i⟩; have NLT := Aside0.mk (Kd.N_lt S9.out.t); clear hggl hb hA)
                | ((with_reducible refine gate_dst (N := 114) rfl ?_); refine Kd.N_append_rows (Kd.int .i64) (w0 := wl) 0 rfl (.tmp 110) (.tmp 113) 34 3 (.int .i64 0) 8 rfl hu34 (by kernel_rfl) rfl (by decide) (by decide) (.slice At (kc ks 3 (ks.length) + i) ct) (plc ks 3 (ks.length) ++ TS i) [100 + (i : Int)] (some ⟨gl, 0, none⟩) 1 1 (fun k => (relab (relab (relab L wr.heap.size 3) w7.heap.size 4) w8.heap.size 5) k = 6 ∨ w6.heap.size ≤ k) (fun k => w6.heap.size ≤ k) ?h1 ?h2 (Kd.N_mono (Kd.N_below S9.out.t HBl.out) (fun _ h => .inl h)) FO.out (fun k hk => ⟨.inr hk, fun e => by have := NLT.out k e.symm; omega⟩) (fun k hk => .inr (Nat.le_trans HBl.out.size hk)) (Below.refl _ _) (Nat.zero_le _) (by have h1 := kc_le ks 3 (ks.length); have h2 := HN20.out; have h3 := HI8.out; rw [lenT]; omega) ?_; (case h1 => first | rfl | (simp; done)); (case h2 => rfl); intro v6 w6 hN6 hb6 hgr hat; rw [appTS] at hN6; have S10 := Aside0.mk (S9.out.app_t hN6 (app_fr S9.out.t HBl.out hgr)); clear hN6 hb6 hgr hat FO NLT HBl GLL))
              go_roundg (q - (i + 1))
              case measure => have := I3.out; have := HLT.out; omega
              case rel => exact ⟨i + 1, _, _, _, _, _, _, _, by have := HLT.out; omega, rfl, rfl, by go_num, S10.out⟩
            · have hie : i = q := by have := I3.out; omega
              subst hie
              obtain ⟨AT, cT, hvT⟩ := Kd.N_slice S3.out.T
              rw [TL_len] at hvT
              obtain ⟨AI, cI, hvI⟩ := Kd.N_slice S3.out.I
              rw [FULL_len] at hvI
              subst hvT hvI
              have S5 := S3
              have dl1 : decide (i < i) = false := decide_eq_false (Nat.lt_irrefl _)
              clear S3 hlt I3
              go_wp2
              clear dl1 hown
              go_loopg [13] (kc ks 0 (ks.length) + i) (fun n v13 wr => Rel4 w L gm gc (.slice AT 40 cT) (.slice AI (ks.length) cI) (.slice AF i cF) (.slice AG i cG) (.slice Af (kc ks 0 (ks.length) + i) cf) (.slice At (kc ks 3 (ks.length) + i) ct) (TL 40) (FULL ks (ks.length)) (FS i) (GS i) (plc ks 0 (ks.length) ++ FS i) (plc ks 3 (ks.length) ++ TS i) (kc ks 0 (ks.length)) (kc ks 1 (ks.length)) (kc ks 2 (ks.length)) (kc ks 3 (ks.length)) (kc ks 0 (ks.length) + i) n v13 wr)
              case atStart => first | exact ⟨0, by omega, rfl, S5.out⟩ | exact ⟨0, by omega, rfl, S5.out.call (below_drew (Below.refl _ _))⟩
              case round =>
                clear S5
                obtain ⟨j, hj, rfl, hS⟩ := hrel
                have I4 := Aside0.mk hj
                have S3 := Aside0.mk hS
                clear hj hS
                by_cases hlt : j < kc ks 0 (ks.length) + i
                · have dl1 : decide (j < kc ks 0 (ks.length) + i) = true := decide_eq_true hlt
                  have dl2 : decide ((j : Int) < ((kc ks 0 (ks.length) + i : Nat) : Int)) = true := decide_eq_true (by omega)
                  have dl3 : decide ((j : Int) < (kc ks 0 (ks.length) : Int) + (i : Int)) = true := decide_eq_true (by omega)
                  have hl3 : (j : Int) < (kc ks 0 (ks.length) : Int) + (i : Int) := by omega
                  have HLT := Aside0.mk hlt
                  have hb28 : j < 28 := by have := kc_le ks 0 (ks.length); have := HN20.out; have := HQ.out; omega
                  have w1 : wrap64 ((j : Int) + 1) = (j : Int) + 1 := by unfold wrap64; omega
                  obtain ⟨ad, hAf, ze⟩ := int_at (Kd.N_reads' S3.out.f).2.2 j (by rw [lenF]; exact hlt)
                  subst hAf
                  obtain ⟨m, hm40, hmv, hfn⟩ := fun_at ks (ks.length) i j HN20.out HQ.out hlt
                  rw [hmv] at ze
                  have FC := Aside0.mk (S3.out.func HN20.out HQ.out (j : Int) (by omega) hfn)
                  rw [List.length_replicate] at FC
                  clear hmv hfn hm40 hb28
                  have y0 : wr.cell? ⟨gm, 0, none⟩ = some (.slice AT 40 cT) := blk_cell S3.out.m 0
                  have y1 : wr.cell? ⟨gm, 1, none⟩ = some (.slice AI (ks.length) cI) := blk_cell S3.out.m 1
                  have y2 : wr.cell? ⟨gm, 2, none⟩ = some (.slice AF i cF) := blk_cell S3.out.m 2
                  have y3 : wr.cell? ⟨gm, 3, none⟩ = some (.slice none 0 0) := blk_cell S3.out.m 3
                  have y4 : wr.cell? ⟨gm, 4, none⟩ = some (.slice none 0 0) := blk_cell S3.out.m 4
                  have y5 : wr.cell? ⟨gm, 5, none⟩ = some (.slice AG i cG) := blk_cell S3.out.m 5
                  have y6 : wr.cell? ⟨gm, 6, none⟩ = some (.slice none 0 0) := blk_cell S3.out.m 6
                  have y7 : wr.cell? ⟨gm, 7, none⟩ = some (.int .i64 0) := blk_cell S3.out.m 7
                  have y8 : wr.cell? ⟨gm, 8, none⟩ = some (.slice none 0 0) := blk_cell S3.out.m 8
                  have y9 : wr.cell? ⟨gm, 9, none⟩ = some (.slice none 0 0) := blk_cell S3.out.m 9
                  have y10 : wr.cell? ⟨gm, 10, none⟩ = some (.slice none 0 0) := blk_cell S3.out.m 10
                  go_wp2_with (first
                    | (go_at_call 26; (with_reducible refine FC.out.mono ?_); rintro e w4 ⟨Av, cv, Bv, dv, rfl, hb⟩; have HB4 := Aside0.mk hb; clear hb FC; clear y0 y1 y2 y3 y4 y5 y6 y7 y8 y9 y10)
                    | ((with_reducible refine gate_dst (N := 14) rfl ?_); refine box_event ?hg (N := 14) ?hd (cs := #[.slice none 0 0, .slice none 0 0]) (t := 36) ?hr ?_; (case hd => rfl); (case hg => rfl); (case hr => first | (go_simp; done) | (go_simp; rfl)); intro g14 hgg14 w5 hA hb; have B14 := Aside0.mk hA; have G14 := Aside0.mk (show wr.heap.size ≤ g14 by rw [hgg14]; exact HB4.out.size); have HB5 := Aside0.mk (below_step HB4.out hb); clear hA hb hgg14 HB4)
                    | ((with_reducible refine gate_store (p := 14) rfl ?_); refine storeRow_event (g := g14) rfl rfl rfl (cs := #[.slice Av m cv, .slice Bv 0 dv]) rfl rfl B14.out (by kernel_rfl) rfl (by simp [Value.oneCell']) ?_; intro w6 hA hb ho hs; have HB6 := Aside0.mk (hb _ _ G14.out HB5.out); have q0 : w6.cell? ⟨g14, 0, none⟩ = some (.slice Av m cv) := blk_cell hA 0; have q1 : w6.cell? (ad.add j) = some (.int .i64 (m : Int)) := pw_cell_below HB6.out ze; clear hA hb ho hs B14 HB5 ze G14))
                  refine start_ (n := 13) (S := fun w' => w'.cell? ⟨g14, 0, none⟩ = some (.slice Av m cv) ∧ w'.cell? (ad.add j) = some (.int .i64 (m : Int))) (ds := []) #[false, false, false, false, false, false, false, false, false, false, false, false, false] (by kernel_rfl) rfl rfl ⟨q0, q1⟩ (fun hHeld => ?_)
                  refine pure_ (i := 0) (N := some 127) (v := ?_) (a' := ?_) #[true, false, false, false, false, false, false, false, false, false, false, false, false] rfl rfl (by kernel_rfl) (fun _ _ _ h => h) (Or.inl ⟨by rfl, ?_⟩) ?_ ?_
                  rotate_left
                  · intro w'
                    go_simp
                    with_reducible rfl
                  rotate_left
                  · simp only [Act.put, List.setIfInBounds_toArray, List.set_cons_zero, List.set_cons_succ, i64_w, i32_w]
                    rfl
                  refine one_ (i := 1) (N := some 128) #[true, true, false, false, false, false, false, false, false, false, false, false, false] rfl rfl (by kernel_rfl) (by decide) (fun K hK => ?_)
                  refine goes_ Try.func20 (by kernel_rfl) rfl #[.int .i64 0] (by rfl) rfl rfl (by simp only [List.map_toArray, List.map_cons, List.map_nil]; rfl) ?_
                  with_reducible refine (peloruslaw0_Num.calls 0 0 _ rfl).mono ?_
                  rintro e w7 ⟨rfl, hb⟩
                  refine ⟨_, rfl, ?_⟩
                  have HB7 : Aside0 (Below w6.heap.size w6 w7) := ⟨below_step (below_drew (Below.refl _ _)) hb.below⟩
                  clear hb
                  refine hK.out _ _ ⟨pw_cell_below HB7.out q0, pw_cell_below HB7.out q1⟩ (fun hHeld => ?_)
                  clear hK K
                  refine norm_ (a' := ?_) ?_ ?_
                  rotate_left
                  · show Act.put _ (some 128) _ = _
                    simp only [Act.put, List.setIfInBounds_toArray, List.set_cons_zero, List.set_cons_succ, i64_w, i32_w]
                    rfl
                  refine pure_ (i := 2) (N := some 129) (v := ?_) (a' := ?_) #[true, true, true, false, false, false, false, false, false, false, false, false, false] rfl rfl (by kernel_rfl) (fun _ _ _ h => h) (Or.inl ⟨by rfl, ?_⟩) ?_ ?_
                  rotate_left
                  · intro w'
                    go_simp
                    with_reducible rfl
                  rotate_left
                  · simp only [Act.put, List.setIfInBounds_toArray, List.set_cons_zero, List.set_cons_succ, i64_w, i32_w]
                    rfl
                  refine pure_ (i := 3) (N := some 130) (v := ?_) (a' := ?_) #[true, true, true, true, false, false, false, false, false, false, false, false, false] rfl rfl (by kernel_rfl) (fun _ _ _ h => h) (Or.inl ⟨by rfl, ?_⟩) ?_ ?_
                  rotate_left
                  · intro w'
                    go_simp
                    with_reducible rfl
                  rotate_left
                  · simp only [Act.put, List.setIfInBounds_toArray, List.set_cons_zero, List.set_cons_succ, i64_w, i32_w]
                    rfl
                  refine pure_ (i := 4) (N := some 131) (v := ?_) (a' := ?_) #[true, true, true, true, true, false, false, false, false, false, false, false, false] rfl rfl (by kernel_rfl) (fun _ _ _ h => h) (Or.inl ⟨by rfl, ?_⟩) ?_ ?_
                  rotate_left
                  · intro w'
                    go_simp
                    with_reducible rfl
                  rotate_left
                  · simp only [Act.put, List.setIfInBounds_toArray, List.set_cons_zero, List.set_cons_succ, i64_w, i32_w]
                    rfl
                  refine pure_ (i := 7) (N := some 134) (v := ?_) (a' := ?_) #[true, true, true, true, true, false, false, true, false, false, false, false, false] rfl rfl (by kernel_rfl) (fun _ _ _ h => h) (Or.inl ⟨by rfl, ?_⟩) ?_ ?_
                  rotate_left
                  · intro w'
                    go_simp
                    with_reducible rfl
                  rotate_left
                  · simp only [Act.put, List.setIfInBounds_toArray, List.set_cons_zero, List.set_cons_succ, i64_w, i32_w]
                    rfl
                  refine pure_ (i := 8) (N := some 135) (v := ?_) (a' := ?_) #[true, true, true, true, true, false, false, true, true, false, false, false, false] rfl rfl (by kernel_rfl) (fun _ _ _ h => h) (Or.inl ⟨by rfl, ?_⟩) ?_ ?_
                  rotate_left
                  · intro w'
                    go_simp
                    with_reducible rfl
                  rotate_left
                  · simp only [Act.put, List.setIfInBounds_toArray, List.set_cons_zero, List.set_cons_succ, i64_w, i32_w]
                    rfl
                  refine pure_ (i := 9) (N := some 136) (v := ?_) (a' := ?_) #[true, true, true, true, true, false, false, true, true, true, false, false, false] rfl rfl (by kernel_rfl) (fun _ _ _ h => h) (Or.inl ⟨by rfl, ?_⟩) ?_ ?_
                  rotate_left
                  · intro w'
                    go_simp
                    with_reducible rfl
                  rotate_left
                  · simp only [Act.put, List.setIfInBounds_toArray, List.set_cons_zero, List.set_cons_succ, i64_w, i32_w]
                    rfl
                  refine take_ (i := 5) (N := some 132) (v := ?_) (a' := ?_) #[true, true, true, true, true, true, false, true, true, true, false, false, false] rfl rfl (by kernel_rfl) (fun _ _ _ h => h) (Or.inl ⟨by rfl, ?_⟩) hHeld ?_ ?_
                  rotate_left
                  · rintro w' ⟨s0, s1⟩
                    go_simp
                    with_reducible rfl
                  rotate_left
                  · simp only [Act.put, List.setIfInBounds_toArray, List.set_cons_zero, List.set_cons_succ, i64_w, i32_w]
                    rfl
                  refine pure_ (i := 6) (N := some 133) (v := ?_) (a' := ?_) #[true, true, true, true, true, true, true, true, true, true, false, false, false] rfl rfl (by kernel_rfl) (fun _ _ _ h => h) (Or.inl ⟨by rfl, ?_⟩) ?_ ?_
                  rotate_left
                  · intro w'
                    go_simp
                    with_reducible rfl
                  rotate_left
                  · simp only [Act.put, List.setIfInBounds_toArray, List.set_cons_zero, List.set_cons_succ, i64_w, i32_w]
                    rfl
                  refine take_ (i := 10) (N := some 137) (v := ?_) (a' := ?_) #[true, true, true, true, true, true, true, true, true, true, true, false, false] rfl rfl (by kernel_rfl) (fun _ _ _ h => h) (Or.inl ⟨by rfl, ?_⟩) hHeld ?_ ?_
                  rotate_left
                  · rintro w' ⟨s0, s1⟩
                    go_simp
                    with_reducible rfl
                  rotate_left
                  · simp only [Act.put, List.setIfInBounds_toArray, List.set_cons_zero, List.set_cons_succ, i64_w, i32_w]
                    rfl
                  refine pure_ (i := 11) (N := some 138) (v := ?_) (a' := ?_) #[true, true, true, true, true, true, true, true, true, true, true, true, false] rfl rfl (by kernel_rfl) (fun _ _ _ h => h) (Or.inl ⟨by rfl, ?_⟩) ?_ ?_
                  rotate_left
                  · intro w'
                    go_simp
                    with_reducible rfl
                  rotate_left
                  · simp only [Act.put, List.setIfInBounds_toArray, List.set_cons_zero, List.set_cons_succ, i64_w, i32_w]
                    rfl
                  refine pure_ (i := 12) (N := some 139) (v := ?_) (a' := ?_) #[true, true, true, true, true, true, true, true, true, true, true, true, true] rfl rfl (by kernel_rfl) (fun _ _ _ h => h) (Or.inl ⟨by rfl, ?_⟩) ?_ ?_
                  rotate_left
                  · intro w'
                    go_simp
                    with_reducible rfl
                  rotate_left
                  · simp only [Act.put, List.setIfInBounds_toArray, List.set_cons_zero, List.set_cons_succ, i64_w, i32_w]
                    rfl
                  refine done_ (by kernel_rfl) ?_

                  go_wp2
                  go_roundg ((kc ks 0 (ks.length) + i) - (j + 1))
                  case measure => have := I4.out; have := HLT.out; omega
                  case rel => exact ⟨j + 1, by have := HLT.out; omega, by go_num, S3.out.call (below_step HB6.out HB7.out)⟩
                · have hje : j = kc ks 0 (ks.length) + i := by have := I4.out; omega
                  subst hje
                  have S5 := S3
                  have dl1 : decide (kc ks 0 (ks.length) + i < kc ks 0 (ks.length) + i) = false := decide_eq_false (Nat.lt_irrefl _)
                  have dl3 : decide ((kc ks 0 (ks.length) : Int) + (i : Int) < (kc ks 0 (ks.length) : Int) + (i : Int)) = false := decide_eq_false (Int.lt_irrefl _)
                  clear S3 hlt I4
                  go_wp2
                  clear dl1 dl3
                  go_loopg [16] (kc ks 3 (ks.length) + i) (fun n v16 wr => Rel4 w L gm gc (.slice AT 40 cT) (.slice AI (ks.length) cI) (.slice AF i cF) (.slice AG i cG) (.slice Af (kc ks 0 (ks.length) + i) cf) (.slice At (kc ks 3 (ks.length) + i) ct) (TL 40) (FULL ks (ks.length)) (FS i) (GS i) (plc ks 0 (ks.length) ++ FS i) (plc ks 3 (ks.length) ++ TS i) (kc ks 0 (ks.length)) (kc ks 1 (ks.length)) (kc ks 2 (ks.length)) (kc ks 3 (ks.length)) (kc ks 3 (ks.length) + i) n v16 wr)
                  case atStart => first | exact ⟨0, by omega, rfl, S5.out⟩ | exact ⟨0, by omega, rfl, S5.out.call (below_drew (Below.refl _ _))⟩
                  case round =>
                    clear S5
                    obtain ⟨j, hj, rfl, hS⟩ := hrel
                    have I4 := Aside0.mk hj
                    have S3 := Aside0.mk hS
                    clear hj hS
                    by_cases hlt : j < kc ks 3 (ks.length) + i
                    · have dl1 : decide (j < kc ks 3 (ks.length) + i) = true := decide_eq_true hlt
                      have dl2 : decide ((j : Int) < ((kc ks 3 (ks.length) + i : Nat) : Int)) = true := decide_eq_true (by omega)
                      have dl3 : decide ((j : Int) < (kc ks 3 (ks.length) : Int) + (i : Int)) = true := decide_eq_true (by omega)
                      have hl3 : (j : Int) < (kc ks 3 (ks.length) : Int) + (i : Int) := by omega
                      have HLT := Aside0.mk hlt
                      have hb28 : j < 28 := by have := kc_le ks 3 (ks.length); have := HN20.out; have := HQ.out; omega
                      have w1 : wrap64 ((j : Int) + 1) = (j : Int) + 1 := by unfold wrap64; omega
                      obtain ⟨ad, hAt, ze⟩ := int_at (Kd.N_reads' S3.out.t).2.2 j (by rw [lenT]; exact hlt)
                      subst hAt
                      obtain ⟨x, b, hx, hxb, hgl⟩ := glob_at ks (ks.length) i j HN20.out HQ.out hlt
                      rw [hx] at ze
                      have GC := Aside0.mk (S3.out.glob HN20.out HQ.out (j : Int) (by omega) hgl)
                      clear hx hgl hb28
                      have y0 : wr.cell? ⟨gm, 0, none⟩ = some (.slice AT 40 cT) := blk_cell S3.out.m 0
                      have y1 : wr.cell? ⟨gm, 1, none⟩ = some (.slice AI (ks.length) cI) := blk_cell S3.out.m 1
                      have y2 : wr.cell? ⟨gm, 2, none⟩ = some (.slice AF i cF) := blk_cell S3.out.m 2
                      have y3 : wr.cell? ⟨gm, 3, none⟩ = some (.slice none 0 0) := blk_cell S3.out.m 3
                      have y4 : wr.cell? ⟨gm, 4, none⟩ = some (.slice none 0 0) := blk_cell S3.out.m 4
                      have y5 : wr.cell? ⟨gm, 5, none⟩ = some (.slice AG i cG) := blk_cell S3.out.m 5
                      have y6 : wr.cell? ⟨gm, 6, none⟩ = some (.slice none 0 0) := blk_cell S3.out.m 6
                      have y7 : wr.cell? ⟨gm, 7, none⟩ = some (.int .i64 0) := blk_cell S3.out.m 7
                      have y8 : wr.cell? ⟨gm, 8, none⟩ = some (.slice none 0 0) := blk_cell S3.out.m 8
                      have y9 : wr.cell? ⟨gm, 9, none⟩ = some (.slice none 0 0) := blk_cell S3.out.m 9
                      have y10 : wr.cell? ⟨gm, 10, none⟩ = some (.slice none 0 0) := blk_cell S3.out.m 10
                      go_wp2_with (first
                        | (go_at_call 28; (with_reducible refine GC.out.mono ?_); rintro e w6 ⟨rfl, hb⟩; have HB6 := Aside0.mk hb; have q1 : w6.cell? (ad.add j) = some (.int .i64 x) := pw_cell_below hb ze; clear hb GC ze; clear y0 y1 y2 y3 y4 y5 y6 y7 y8 y9 y10)
                        | (go_at_call 20; (with_reducible refine (peloruslaw0_Num.calls 0 0 _ rfl).mono ?_); rintro e w7 ⟨rfl, hb⟩; have HB7 := Aside0.mk hb.below; have q2 : w7.cell? (ad.add j) = some (.int .i64 x) := pw_cell_below hb.below q1; clear hb q1))
                      go_roundg ((kc ks 3 (ks.length) + i) - (j + 1))
                      case measure => have := I4.out; have := HLT.out; omega
                      case rel => exact ⟨j + 1, by have := HLT.out; omega, by go_num, S3.out.call (below_step HB6.out HB7.out)⟩
                    · have hje : j = kc ks 3 (ks.length) + i := by have := I4.out; omega
                      subst hje
                      have dl1 : decide (kc ks 3 (ks.length) + i < kc ks 3 (ks.length) + i) = false := decide_eq_false (Nat.lt_irrefl _)
                      have dl3 : decide ((kc ks 3 (ks.length) : Int) + (i : Int) < (kc ks 3 (ks.length) : Int) + (i : Int)) = false := decide_eq_false (Int.lt_irrefl _)
                      have hown := HO.out
                      have CO := Aside0.mk (S3.out.counts HN20.out HQ.out)
                      have hb28 : kc ks 0 (ks.length) + i < 28 := by have := kc_le ks 0 (ks.length); have := HN20.out; have := HQ.out; omega
                      have HB28 := Aside0.mk hb28
                      clear hlt I4 hb28
                      have y0 : wr.cell? ⟨gm, 0, none⟩ = some (.slice AT 40 cT) := blk_cell S3.out.m 0
                      have y1 : wr.cell? ⟨gm, 1, none⟩ = some (.slice AI (ks.length) cI) := blk_cell S3.out.m 1
                      have y2 : wr.cell? ⟨gm, 2, none⟩ = some (.slice AF i cF) := blk_cell S3.out.m 2
                      have y3 : wr.cell? ⟨gm, 3, none⟩ = some (.slice none 0 0) := blk_cell S3.out.m 3
                      have y4 : wr.cell? ⟨gm, 4, none⟩ = some (.slice none 0 0) := blk_cell S3.out.m 4
                      have y5 : wr.cell? ⟨gm, 5, none⟩ = some (.slice AG i cG) := blk_cell S3.out.m 5
                      have y6 : wr.cell? ⟨gm, 6, none⟩ = some (.slice none 0 0) := blk_cell S3.out.m 6
                      have y7 : wr.cell? ⟨gm, 7, none⟩ = some (.int .i64 0) := blk_cell S3.out.m 7
                      have y8 : wr.cell? ⟨gm, 8, none⟩ = some (.slice none 0 0) := blk_cell S3.out.m 8
                      have y9 : wr.cell? ⟨gm, 9, none⟩ = some (.slice none 0 0) := blk_cell S3.out.m 9
                      have y10 : wr.cell? ⟨gm, 10, none⟩ = some (.slice none 0 0) := blk_cell S3.out.m 10
                      go_wp2_with (first
                        | (go_at_call 30; (with_reducible refine CO.out.mono ?_); rintro e w4 ⟨rfl, hb⟩; have S4 := Aside0.mk (S3.out.call hb); have FE0 := S4.out.func HN20.out HQ.out ((kc ks 0 (ks.length) + i : Nat) : Int) (by have := HB28.out; omega) (fun_end ks (ks.length) i); rw [List.length_nil, Int.natCast_add] at FE0; have FE := Aside0.mk FE0; clear FE0 hb CO S3; clear y0 y1 y2 y3 y4 y5 y6 y7 y8 y9 y10; have y0 : w4.cell? ⟨gm, 0, none⟩ = some (.slice AT 40 cT) := blk_cell S4.out.m 0; have y1 : w4.cell? ⟨gm, 1, none⟩ = some (.slice AI (ks.length) cI) := blk_cell S4.out.m 1; have y2 : w4.cell? ⟨gm, 2, none⟩ = some (.slice AF i cF) := blk_cell S4.out.m 2; have y3 : w4.cell? ⟨gm, 3, none⟩ = some (.slice none 0 0) := blk_cell S4.out.m 3; have y4 : w4.cell? ⟨gm, 4, none⟩ = some (.slice none 0 0) := blk_cell S4.out.m 4; have y5 : w4.cell? ⟨gm, 5, none⟩ = some (.slice AG i cG) := blk_cell S4.out.m 5; have y6 : w4.cell? ⟨gm, 6, none⟩ = some (.slice none 0 0) := blk_cell S4.out.m 6; have y7 : w4.cell? ⟨gm, 7, none⟩ = some (.int .i64 0) := blk_cell S4.out.m 7; have y8 : w4.cell? ⟨gm, 8, none⟩ = some (.slice none 0 0) := blk_cell S4.out.m 8; have y9 : w4.cell? ⟨gm, 9, none⟩ = some (.slice none 0 0) := blk_cell S4.out.m 9; have y10 : w4.cell? ⟨gm, 10, none⟩ = some (.slice none 0 0) := blk_cell S4.out.m 10)
                        | (go_at_call 26; (with_reducible refine FE.out.mono ?_); rintro e w5 ⟨Av, cv, Bv, dv, rfl, hb⟩; have S5 := Aside0.mk (S4.out.call hb); clear hb FE S4; clear y0 y1 y2 y3 y4 y5 y6 y7 y8 y9 y10)
                        | ((with_reducible refine gate_dst (N := 24) rfl ?_); refine box_event ?hg (N := 24) ?hd (cs := #[.slice none 0 0, .slice none 0 0]) (t := 36) ?hr ?_; (case hd => rfl); (case hg => rfl); (case hr => first | (go_simp; done) | (go_simp; rfl)); intro g24 hgg24 w6 hA hb; have B24 := Aside0.mk hA; have G24 := Aside0.mk (show w5.heap.size ≤ g24 by rw [hgg24]; exact Nat.le_refl _); have HB6 := Aside0.mk hb; clear hA hb hgg24)
                        | ((with_reducible refine gate_store (p := 24) rfl ?_); refine storeRow_event (g := g24) rfl rfl rfl (cs := #[.slice Av 0 cv, .slice Bv 0 dv]) rfl rfl B24.out (by kernel_rfl) rfl (by simp [Value.oneCell']) ?_; intro w7 hA hb ho hs; have S7 := Aside0.mk (S5.out.call (hb _ _ G24.out HB6.out)); have GN := Aside0.mk (S7.out.glob HN20.out HQ.out (-1) (by omega) (glob_neg ks (ks.length) i)); clear hA hb ho hs B24 HB6 G24 S5; have y0 : w7.cell? ⟨gm, 0, none⟩ = some (.slice AT 40 cT) := blk_cell S7.out.m 0; have y1 : w7.cell? ⟨gm, 1, none⟩ = some (.slice AI (ks.length) cI) := blk_cell S7.out.m 1; have y2 : w7.cell? ⟨gm, 2, none⟩ = some (.slice AF i cF) := blk_cell S7.out.m 2; have y3 : w7.cell? ⟨gm, 3, none⟩ = some (.slice none 0 0) := blk_cell S7.out.m 3; have y4 : w7.cell? ⟨gm, 4, none⟩ = some (.slice none 0 0) := blk_cell S7.out.m 4; have y5 : w7.cell? ⟨gm, 5, none⟩ = some (.slice AG i cG) := blk_cell S7.out.m 5; have y6 : w7.cell? ⟨gm, 6, none⟩ = some (.slice none 0 0) := blk_cell S7.out.m 6; have y7 : w7.cell? ⟨gm, 7, none⟩ = some (.int .i64 0) := blk_cell S7.out.m 7; have y8 : w7.cell? ⟨gm, 8, none⟩ = some (.slice none 0 0) := blk_cell S7.out.m 8; have y9 : w7.cell? ⟨gm, 9, none⟩ = some (.slice none 0 0) := blk_cell S7.out.m 9; have y10 : w7.cell? ⟨gm, 10, none⟩ = some (.slice none 0 0) := blk_cell S7.out.m 10)
                        | (go_at_call 28; (with_reducible refine GN.out.mono ?_); rintro e w8 ⟨rfl, hb⟩; have S8 := Aside0.mk (S7.out.call hb); have z0 : w8.cell? ⟨gc, 0, none⟩ = some (.int .i64 (kc ks 0 (ks.length) : Int)) := blk_cell S8.out.cc 0; have z1 : w8.cell? ⟨gc, 1, none⟩ = some (.int .i64 (kc ks 1 (ks.length) : Int)) := blk_cell S8.out.cc 1; have z2 : w8.cell? ⟨gc, 2, none⟩ = some (.int .i64 (kc ks 2 (ks.length) : Int)) := blk_cell S8.out.cc 2; have z3 : w8.cell? ⟨gc, 3, none⟩ = some (.int .i64 (kc ks 3 (ks.length) : Int)) := blk_cell S8.out.cc 3; clear hb GN S7; clear y0 y1 y2 y3 y4 y5 y6 y7 y8 y9 y10)
                        | (go_at_call 20; (with_reducible refine (peloruslaw0_Num.calls 1701 1701 w8 rfl).mono ?_); rintro e w9 ⟨rfl, hb⟩; have HB9 := Aside0.mk hb.below; have u0 : w9.cell? ⟨gc, 0, none⟩ = some (.int .i64 (kc ks 0 (ks.length) : Int)) := pw_cell_below hb.below z0; have u1 : w9.cell? ⟨gc, 1, none⟩ = some (.int .i64 (kc ks 1 (ks.length) : Int)) := pw_cell_below hb.below z1; have u2 : w9.cell? ⟨gc, 2, none⟩ = some (.int .i64 (kc ks 2 (ks.length) : Int)) := pw_cell_below hb.below z2; have u3 : w9.cell? ⟨gc, 3, none⟩ = some (.int .i64 (kc ks 3 (ks.length) : Int)) := pw_cell_below hb.below z3; clear z0 z1 z2 z3; clear hb)
                        | (go_at_call 20; (with_reducible refine (peloruslaw0_Num.calls 1701 1701 w9 rfl).mono ?_); rintro e w10 ⟨rfl, hb⟩; have HB10 := Aside0.mk (below_step HB9.out hb.below); clear hb))
                      go_ret
                      exact ⟨rfl, below_step S8.out.bel HB10.out⟩
end Go.Proofs.Ytmofdpkddimmlaa.EFty
