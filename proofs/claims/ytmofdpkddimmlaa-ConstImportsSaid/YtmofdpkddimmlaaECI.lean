/-
  ConstImports.
-/
import Derived.Test.YtmofdpkddimmlaaECI0
namespace Go.Proofs.Ytmofdpkddimmlaa.EInstr
open Go Go.RowKit Go.Proofs.Ytmofdpkddimmlaa.F Go.Proofs.YtmofdpkddimmlaaW.Hand Go.Proofs.YtmofdpkddimmlaaW.PrintWords Go.Proofs.YtmofdpkddimmlaaW.PrintLast Go.Proofs.YtmofdpkddimmlaaW.PrintMore
open Go.Proofs.Ytmofdpkddimmlaa.EFty (cnt nth cnt_le upTo)
set_option linter.unusedVariables false
set_option linter.unusedSimpArgs false
set_option maxHeartbeats 16000000 in
set_option maxRecDepth 100000 in
theorem cimports_calls (w : World) (ks : List Int) (at_ t : Int) (A : Option Addr) (c : Nat) (hks : (Kd.int .i64).C w A ks.length ks) (hkc : ks.length ≤ c) :
    Calls Try.prog 11 #[.slice A ks.length c, .int .i64 at_, .int .i64 t] w fun e w' => e = .returned (.bool true) ∧ Below w.heap.size w w' := by
  have hu61 := Try.underlying61
  have hu34 := Try.underlying34
  have hu107 := Try.underlying107
  obtain ⟨a, ha, ha16⟩ := and15 at_
  obtain ⟨of, hof⟩ : ∃ o, wrap64 (127 - Go.bits .and .i64 t 3) = o := ⟨_, rfl⟩
  have HK := Aside0.mk hks
  have HAT := Aside0.mk ha
  have HA16 := Aside0.mk ha16
  have HOF := Aside0.mk hof
  clear hks ha ha16 hof
  go_enter Try.func11, Try.ntmps11
  go_wp2_with (first
    | (go_at_call 46; (with_reducible refine (awake_calls _).mono ?_); rintro e w1 ⟨rfl, hb⟩; have HB1 := Aside0.mk hb; clear hb)
    | ((with_reducible refine gate_dst (N := 21) rfl ?_); refine lit_event ?hg (N := 21) ?hd (cs := #[.int .i64 127, .bool false, .slice none 0 0]) (t := 93) (n := 1) ?hr ?_; (case hd => rfl); (case hg => rfl); (case hr => first | (go_simp; done) | (go_simp; rfl)); intro lg hglg w2 hA hb; have HB2 := Aside0.mk (below_step HB1.out hb); have GG := Aside0.mk (show w.heap.size ≤ lg by rw [hglg]; exact HB1.out.size); have BG2 := Aside0.mk hA; clear hA hb hglg HB1)
    | ((with_reducible refine gate_dst (N := 7) rfl ?_); refine box_event ?hg (N := 7) ?hd (cs := #[.slice none 0 0, .slice none 0 0, .slice none 0 0, .slice none 0 0, .slice none 0 0, .slice none 0 0, .slice none 0 0, .int .i64 0, .slice none 0 0, .slice none 0 0, .slice none 0 0]) (t := 69) ?hr ?_; (case hd => rfl); (case hg => rfl); (case hr => first | (go_simp; done) | (go_simp; rfl)); intro gm hggm w3 hA hb; have HB3 := Aside0.mk (below_step HB2.out hb); have GL := Aside0.mk (show w.heap.size ≤ gm ∧ lg ≠ gm by rw [hggm]; exact ⟨HB2.out.size, Nat.ne_of_lt (blk_lt BG2.out)⟩); have BG3 := Aside0.mk (blk_below BG2.out hb); have BM3 := Aside0.mk hA; clear hggm hb hA HB2 BG2)
    | ((with_reducible refine gate_store (p := 7) rfl ?_); refine storeRow_event (g := gm) rfl rfl rfl (cs := #[.slice none 0 0, .slice none 0 0, .slice none 0 0, .slice none 0 0, .slice none 0 0, .slice (some ⟨lg, 0, none⟩) 1 1, .slice none 0 0, .int .i64 0, .slice none 0 0, .slice none 0 0, .slice none 0 0]) rfl rfl BM3.out (by kernel_rfl) rfl (by simp [Value.oneCell']) ?_; intro w4 hA hb ho hs; have S0 := Aside0.mk (St.begin (hb _ _ GL.out.1 HB3.out) GL.out.1 GG.out GL.out.2 hA ((ho lg GL.out.2).trans BG3.out)); clear hA hb ho hs BM3 BG3 HB3 GL GG))
  go_loopg [8, 9, 10] 20 (fun n v8 v9 v10 wr => RelC w gm lg n v8 v9 v10 wr)
  case atStart => first | exact ⟨[], _, _, _, _, by simp, rfl, rfl, rfl, S0.out⟩ | exact ⟨[], _, _, _, _, by simp, rfl, rfl, rfl, S0.out.call (below_drew (Below.refl _ _))⟩
  case round =>
    clear S0
    obtain ⟨imps, L, vI, vt, vm, hi, rfl, rfl, rfl, hS⟩ := hrel
    have I2 := Aside0.mk hi
    have S3 := Aside0.mk hS
    obtain ⟨At, ct, hvt⟩ := Kd.N_slice hS.t
    rw [List.length_map] at hvt
    obtain ⟨Am, cm, hvm⟩ := Kd.N_slice hS.u
    rw [List.length_map] at hvm
    obtain ⟨AI, cI, rfl⟩ : ∃ AI cI, vI = .slice AI imps.length cI := Kd.N_slice hS.I
    subst hvt hvm
    have HF := Aside0.mk (fl_le imps)
    clear hi hS
    by_cases hlt : imps.length < ks.length ∧ imps.length < 20
    · obtain ⟨hl1, hl2⟩ := hlt
      have dl1 : decide (imps.length < ks.length) = true := decide_eq_true hl1
      have dl2 : decide (imps.length < 20) = true := decide_eq_true hl2
      have dl3 : decide ((imps.length : Int) < 20) = true := decide_eq_true (by omega)
      have hl3 : (imps.length : Int) < 20 := by omega
      have HL2 := Aside0.mk hl2
      have hi0 : (0 : Int) ≤ (imps.length : Int) := by omega
      have w1 : wrap64 ((imps.length : Int) + 1) = (imps.length : Int) + 1 := by unfold wrap64; omega
      obtain ⟨ad, rfl, ze⟩ := int_at HK.out imps.length hl1
      have zX := pw_cell_below S3.out.bel ze
      clear ze
      obtain ⟨X, hX⟩ : ∃ X, ks.getD imps.length 0 = X := ⟨_, rfl⟩
      rw [hX] at zX
      clear hX
      obtain ⟨Ki, hK, -⟩ := and3 X
      obtain ⟨T, hT⟩ : ∃ T, wrap64 (127 - Go.bits .and .i64 (X / 4) 3) = T := ⟨_, rfl⟩
      obtain ⟨M, hM⟩ : ∃ M, (Go.bits .and .i64 X 16 == 16) = M := ⟨_, rfl⟩
      go_wp2
      refine start_ (n := 17) (S := fun w' => w'.cell? (ad.add imps.length) = some (.int .i64 X)) (ds := [16]) #[false, false, false, false, false, false, false, false, false, false, false, false, false, false, false, false, false] (by kernel_rfl) rfl rfl (zX) (fun hHeld => ?_)
      refine pure_ (i := 0) (N := some 38) (v := ?_) (a' := ?_) #[true, false, false, false, false, false, false, false, false, false, false, false, false, false, false, false, false] rfl rfl (by kernel_rfl) (fun _ _ _ h => h) (Or.inl ⟨by rfl, ?_⟩) ?_ ?_
      rotate_left
      · intro w'
        go_simp
        with_reducible rfl
      rotate_left
      · simp only [Act.put, List.setIfInBounds_toArray, List.set_cons_zero, List.set_cons_succ, i64_w, i32_w]
        rfl
      refine pure_ (i := 1) (N := some 39) (v := ?_) (a' := ?_) #[true, true, false, false, false, false, false, false, false, false, false, false, false, false, false, false, false] rfl rfl (by kernel_rfl) (fun _ _ _ h => h) (Or.inl ⟨by rfl, ?_⟩) ?_ ?_
      rotate_left
      · intro w'
        go_simp
        with_reducible rfl
      rotate_left
      · simp only [Act.put, List.setIfInBounds_toArray, List.set_cons_zero, List.set_cons_succ, i64_w, i32_w]
        rfl
      refine pure_ (i := 2) (N := some 40) (v := ?_) (a' := ?_) #[true, true, true, false, false, false, false, false, false, false, false, false, false, false, false, false, false] rfl rfl (by kernel_rfl) (fun _ _ _ h => h) (Or.inl ⟨by rfl, ?_⟩) ?_ ?_
      rotate_left
      · intro w'
        go_simp
        with_reducible rfl
      rotate_left
      · simp only [Act.put, List.setIfInBounds_toArray, List.set_cons_zero, List.set_cons_succ, i64_w, i32_w]
        rfl
      refine pure_ (i := 3) (N := some 41) (v := ?_) (a' := ?_) #[true, true, true, true, false, false, false, false, false, false, false, false, false, false, false, false, false] rfl rfl (by kernel_rfl) (fun _ _ _ h => h) (Or.inl ⟨by rfl, ?_⟩) ?_ ?_
      rotate_left
      · intro w'
        go_simp
        with_reducible rfl
      rotate_left
      · simp only [Act.put, List.setIfInBounds_toArray, List.set_cons_zero, List.set_cons_succ, i64_w, i32_w]
        rfl
      refine pure_ (i := 8) (N := some 46) (v := ?_) (a' := ?_) #[true, true, true, true, false, false, false, false, true, false, false, false, false, false, false, false, false] rfl rfl (by kernel_rfl) (fun _ _ _ h => h) (Or.inl ⟨by rfl, ?_⟩) ?_ ?_
      rotate_left
      · intro w'
        go_simp
        with_reducible rfl
      rotate_left
      · simp only [Act.put, List.setIfInBounds_toArray, List.set_cons_zero, List.set_cons_succ, i64_w, i32_w]
        rfl
      refine pure_ (i := 9) (N := some 47) (v := ?_) (a' := ?_) #[true, true, true, true, false, false, false, false, true, true, false, false, false, false, false, false, false] rfl rfl (by kernel_rfl) (fun _ _ _ h => h) (Or.inl ⟨by rfl, ?_⟩) ?_ ?_
      rotate_left
      · intro w'
        go_simp
        with_reducible rfl
      rotate_left
      · simp only [Act.put, List.setIfInBounds_toArray, List.set_cons_zero, List.set_cons_succ, i64_w, i32_w]
        rfl
      refine pure_ (i := 10) (N := some 48) (v := ?_) (a' := ?_) #[true, true, true, true, false, false, false, false, true, true, true, false, false, false, false, false, false] rfl rfl (by kernel_rfl) (fun _ _ _ h => h) (Or.inl ⟨by rfl, ?_⟩) ?_ ?_
      rotate_left
      · intro w'
        go_simp
        with_reducible rfl
      rotate_left
      · simp only [Act.put, List.setIfInBounds_toArray, List.set_cons_zero, List.set_cons_succ, i64_w, i32_w]
        rfl
      refine take_ (i := 4) (N := some 42) (v := ?_) (a' := ?_) #[true, true, true, true, true, false, false, false, true, true, true, false, false, false, false, false, false] rfl rfl (by kernel_rfl) (fun _ _ _ h => h) (Or.inl ⟨by rfl, ?_⟩) hHeld ?_ ?_
      rotate_left
      · intro w' s0
        go_simp
        with_reducible rfl
      rotate_left
      · simp only [Act.put, List.setIfInBounds_toArray, List.set_cons_zero, List.set_cons_succ, i64_w, i32_w]
        rfl
      refine pure_ (i := 5) (N := some 43) (v := ?_) (a' := ?_) #[true, true, true, true, true, true, false, false, true, true, true, false, false, false, false, false, false] rfl rfl (by kernel_rfl) (fun _ _ _ h => h) (Or.inl ⟨by rfl, ?_⟩) ?_ ?_
      rotate_left
      · intro w'
        go_simp
        with_reducible rfl
      rotate_left
      · simp only [Act.put, List.setIfInBounds_toArray, List.set_cons_zero, List.set_cons_succ, i64_w, i32_w]
        rfl
      refine pure_ (i := 6) (N := some 44) (v := ?_) (a' := ?_) #[true, true, true, true, true, true, true, false, true, true, true, false, false, false, false, false, false] rfl rfl (by kernel_rfl) (fun _ _ _ h => h) (Or.inl ⟨by rfl, ?_⟩) ?_ ?_
      rotate_left
      · intro w'
        go_simp
        with_reducible rfl
      rotate_left
      · simp only [Act.put, List.setIfInBounds_toArray, List.set_cons_zero, List.set_cons_succ, i64_w, i32_w]
        rfl
      refine pure_ (i := 7) (N := some 45) (v := ?_) (a' := ?_) #[true, true, true, true, true, true, true, true, true, true, true, false, false, false, false, false, false] rfl rfl (by kernel_rfl) (fun _ _ _ h => h) (Or.inl ⟨by rfl, ?_⟩) ?_ ?_
      rotate_left
      · intro w'
        go_simp
        with_reducible rfl
      rotate_left
      · simp only [Act.put, List.setIfInBounds_toArray, List.set_cons_zero, List.set_cons_succ, i64_w, i32_w]
        rfl
      refine take_ (i := 11) (N := some 49) (v := ?_) (a' := ?_) #[true, true, true, true, true, true, true, true, true, true, true, true, false, false, false, false, false] rfl rfl (by kernel_rfl) (fun _ _ _ h => h) (Or.inl ⟨by rfl, ?_⟩) hHeld ?_ ?_
      rotate_left
      · intro w' s0
        go_simp
        with_reducible rfl
      rotate_left
      · simp only [Act.put, List.setIfInBounds_toArray, List.set_cons_zero, List.set_cons_succ, i64_w, i32_w]
        rfl
      refine pure_ (i := 12) (N := some 50) (v := ?_) (a' := ?_) #[true, true, true, true, true, true, true, true, true, true, true, true, true, false, false, false, false] rfl rfl (by kernel_rfl) (fun _ _ _ h => h) (Or.inl ⟨by rfl, ?_⟩) ?_ ?_
      rotate_left
      · intro w'
        go_simp
        with_reducible rfl
      rotate_left
      · simp only [Act.put, List.setIfInBounds_toArray, List.set_cons_zero, List.set_cons_succ, i64_w, i32_w]
        rfl
      refine pure_ (i := 13) (N := some 51) (v := ?_) (a' := ?_) #[true, true, true, true, true, true, true, true, true, true, true, true, true, true, false, false, false] rfl rfl (by kernel_rfl) (fun _ _ _ h => h) (Or.inl ⟨by rfl, ?_⟩) ?_ ?_
      rotate_left
      · intro w'
        go_simp
        with_reducible rfl
      rotate_left
      · simp only [Act.put, List.setIfInBounds_toArray, List.set_cons_zero, List.set_cons_succ, i64_w, i32_w]
        rfl
      refine pure_ (i := 14) (N := some 52) (v := ?_) (a' := ?_) #[true, true, true, true, true, true, true, true, true, true, true, true, true, true, true, false, false] rfl rfl (by kernel_rfl) (fun _ _ _ h => h) (Or.inl ⟨by rfl, ?_⟩) ?_ ?_
      rotate_left
      · intro w'
        go_simp
        with_reducible rfl
      rotate_left
      · simp only [Act.put, List.setIfInBounds_toArray, List.set_cons_zero, List.set_cons_succ, i64_w, i32_w]
        rfl
      refine one_ (i := 15) (N := some 12) #[true, true, true, true, true, true, true, true, true, true, true, true, true, true, true, true, false] rfl rfl (by kernel_rfl) (by decide) (fun K hK => ?_)
      refine boxg_step ?hw (N := 12) ?hd (cs := #[.string ⟨#[]⟩, .string ⟨#[]⟩, .int .i64 0, .int .i64 0, .bool false, .int .i64 0, .int .i64 0]) (t := 90) ?hr ?_
      case hw => rfl
      case hd => rfl
      case hr => first | (go_simp; done) | (go_simp; rfl)
      intro gb hgb wb hA hb
      have HBb : Aside0 (Below wr.heap.size wr wb) := ⟨below_step (below_drew (Below.refl _ _)) hb⟩
      have GB : Aside0 (wr.heap.size ≤ gb) := ⟨by rw [hgb]; exact Nat.le_refl _⟩
      have KB := Aside0.mk hA
      clear hA hb hgb
      refine hK.out _ _ (pw_cell_below HBb.out zX) (fun hHeld => ?_)
      clear hK K
      refine norm_ (a' := ?_) ?_ ?_
      rotate_left
      · show Act.put _ (some 12) _ = _
        simp only [Act.put, List.setIfInBounds_toArray, List.set_cons_zero, List.set_cons_succ, i64_w, i32_w]
        rfl
      refine last_ (i := 16) (N := none) #[true, true, true, true, true, true, true, true, true, true, true, true, true, true, true, true, true] rfl rfl (by kernel_rfl) (by decide) (fun K hK => ?_)
      refine storeRow_step (g := gb) (by rfl) rfl rfl (cs := #[.string ⟨#[]⟩, .string ⟨#[]⟩, .int .i64 Ki, .int .i64 T, .bool M, .int .i64 0, .int .i64 0]) rfl ?hv KB.out (by kernel_rfl) rfl (by simp [Value.oneCell']) ?_
      case hv => rfl
      intro w9 hA hb ho hs
      obtain ⟨L4, hS4, hL4⟩ : ∃ L4 : Nat → Nat, Sr w w9 L4 gm lg (.slice AI imps.length cI) (.slice At (fl imps).length ct) (.slice Am (fl imps).length cm) imps ((fl imps).map (·.f3)) ((fl imps).map (·.f4)) ∧ L4 gb = 8 := ⟨_, S3.out.sr.box GB.out (hb _ _ GB.out HBb.out), box_lab L gb⟩
      have S4 := Aside0.mk hS4
      have LBX := Aside0.mk hL4
      have HX := Aside0.mk hA
      clear hS4 hL4
      have x0 : w9.cell? ⟨gb, 0, none⟩ = some (.string ⟨#[]⟩) := blk_cell hA 0
      have x1 : w9.cell? ⟨gb, 1, none⟩ = some (.string ⟨#[]⟩) := blk_cell hA 1
      have x2 : w9.cell? ⟨gb, 2, none⟩ = some (.int .i64 Ki) := blk_cell hA 2
      have x3 : w9.cell? ⟨gb, 3, none⟩ = some (.int .i64 T) := blk_cell hA 3
      have x4 : w9.cell? ⟨gb, 4, none⟩ = some (.bool M) := blk_cell hA 4
      have x5 : w9.cell? ⟨gb, 5, none⟩ = some (.int .i64 0) := blk_cell hA 5
      have x6 : w9.cell? ⟨gb, 6, none⟩ = some (.int .i64 0) := blk_cell hA 6
      have z1 : w9.cell? ⟨gm, 1, none⟩ = some (.slice AI imps.length cI) := blk_cell S4.out.m 1
      clear hA hb ho hs KB HBb
      refine hK.out _ _ ?_
      clear hK K
      refine done_ (by kernel_rfl) ?_
      clear zX hT hM hK
      by_cases hk3 : Ki = 3
      · have dk : (Ki == 3) = true := by simpa using hk3
        have HK3 := Aside0.mk hk3
        clear hk3
        go_wp2_with (first
          | ((with_reducible refine gate_dst (N := 56) rfl ?_); refine lit_event ?hg (N := 56) ?hd (cs := #[.string ⟨#[]⟩, .string ⟨#[]⟩, .int .i64 Ki, .int .i64 T, .bool M, .int .i64 0, .int .i64 0]) (t := 90) (n := 1) ?hr ?_; (case hd => rfl); (case hg => rfl); (case hr => first | (go_simp; done) | (go_simp; rfl)); intro gl hggl wl hA hb; have HBl := Aside0.mk hb; have GLL := Aside0.mk (show w9.heap.size ≤ gl by rw [hggl]; exact Nat.le_refl _); have FO : Aside0 (Kd.F k90 wl (fun k => w9.heap.size ≤ k) (some ⟨gl, 0, none⟩) 1 [im Ki T M]) := ⟨F_one (cs := [.string ⟨#[]⟩, .string ⟨#[]⟩, .int .i64 Ki, .int .i64 T, .bool M, .int .i64 0, .int .i64 0]) hA GLL.out FK_90⟩; have NLT := Aside0.mk (Kd.N_lt S4.out.I); clear hggl hb hA)
          | ((with_reducible refine gate_dst (N := 57) rfl ?_); refine Kd.N_append_rows k90 (w0 := wl) 0 rfl (.tmp 54) (.tmp 56) 61 90 (.agg #[.string ⟨#[]⟩, .string ⟨#[]⟩, .int .i64 0, .int .i64 0, .bool false, .int .i64 0, .int .i64 0]) 72 rfl hu61 (by kernel_rfl) rfl (by decide) (by decide) (.slice AI imps.length cI) (imps) [im Ki T M] (some ⟨gl, 0, none⟩) 1 1 (fun k => L4 k = 2 ∨ w9.heap.size ≤ k) (fun k => w9.heap.size ≤ k) ?h1 ?h2 (Kd.N_mono (Kd.N_below S4.out.I HBl.out) (fun _ h => .inl h)) FO.out (fun k hk => ⟨.inr hk, fun e => by have := NLT.out k e.symm; omega⟩) (fun k hk => .inr (Nat.le_trans HBl.out.size hk)) (Below.refl _ _) (Nat.zero_le _) (by have := HL2.out; omega) ?_; (case h1 => first | rfl | (simp; done)); (case h2 => rfl); intro v6 w6 hN6 hb6 hgr hat; obtain ⟨A4, c4, hv4⟩ := Kd.N_slice hN6; rw [List.length_append, List.length_singleton] at hv4; subst hv4; have N6 := Aside0.mk hN6; have NGM : Aside0 (some gm ≠ (.slice AI imps.length cI : Value).ownBlock) := ⟨fun e => by have h5 : L4 gm = 2 := S4.out.I.1 gm e.symm; have := S4.out.lm; omega⟩; have HM6 := Aside0.mk (blk_grown (blk_below S4.out.m HBl.out) hgr NGM.out); have FR6 : Aside0 (Fr w9 w6 (fun k => L4 k = 2)) := ⟨app_fr S4.out.I HBl.out hgr⟩; clear hN6 hb6 hgr hat FO NLT NGM)
          | ((with_reducible refine gate_store (p := 58) rfl ?_); refine storeCell_event (g := gm) (j := 1) (x := .slice A4 (imps.length + 1) c4) rfl rfl rfl rfl rfl HM6.out (by simp [mcells]) (by kernel_rfl) rfl ?_; intro w7 hA hb ho hs; have N7 := Aside0.mk (Kd.N_step N6.out (fun k hk _ => ho k (by rcases hk with hk | hk; (intro e; subst e; have := S4.out.lm; omega); (have := blk_lt S4.out.m; omega)))); have FR7 : Aside0 (Fr w9 w7 (fun k => L4 k = 2 ∨ k = gm)) := ⟨(FR6.out.mono (fun k hk => .inl hk)).then_ (Fr.stored (S := fun k => k = gm) hb ho hs rfl) (fun k hk => .inl (.inr hk))⟩; have S7 := Aside0.mk (S4.out.app_I N7.out hA FR7.out); have HX7 := Aside0.mk (FR7.out.block HX.out (fun hk => gm_ne' (c' := 8) S4.out.lm hk (by decide) (by decide) LBX.out)); have LX7 := Aside0.mk ((relab_old (c := 2) (blk_lt HX.out)).trans LBX.out); have y3 : w7.cell? ⟨gb, 3, none⟩ = some (.int .i64 T) := blk_cell HX7.out 3; clear hA hb ho hs N6 FR6 HM6 N7 FR7 HBl GLL HX LBX)
          | ((with_reducible refine gate_dst (N := 64) rfl ?_); refine lit_event ?hg (N := 64) ?hd (cs := #[.int .i64 T]) (t := 3) (n := 1) ?hr ?_; (case hd => rfl); (case hg => rfl); (case hr => first | (go_simp; done) | (go_simp; rfl)); intro gl hggl wl hA hb; have HBl := Aside0.mk hb; have GLL := Aside0.mk (show w7.heap.size ≤ gl by rw [hggl]; exact Nat.le_refl _); have FO : Aside0 (Kd.F (Kd.int .i64) wl (fun k => w7.heap.size ≤ k) (some ⟨gl, 0, none⟩) 1 [T]) := ⟨F_one (cs := [.int .i64 T]) hA GLL.out FK_i⟩; have NLT := Aside0.mk (Kd.N_lt S7.out.t); clear hggl hb hA)
          | ((with_reducible refine gate_dst (N := 65) rfl ?_); refine Kd.N_append_rows (Kd.int .i64) (w0 := wl) 0 rfl (.tmp 61) (.tmp 64) 34 3 (.int .i64 0) 8 rfl hu34 (by kernel_rfl) rfl (by decide) (by decide) (.slice At (fl imps).length ct) ((fl imps).map (·.f3)) [T] (some ⟨gl, 0, none⟩) 1 1 (fun k => (relab L4 w9.heap.size 2) k = 5 ∨ w7.heap.size ≤ k) (fun k => w7.heap.size ≤ k) ?h1 ?h2 (Kd.N_mono (Kd.N_below S7.out.t HBl.out) (fun _ h => .inl h)) FO.out (fun k hk => ⟨.inr hk, fun e => by have := NLT.out k e.symm; omega⟩) (fun k hk => .inr (Nat.le_trans HBl.out.size hk)) (Below.refl _ _) (Nat.zero_le _) (by have := HF.out; have := HL2.out; rw [List.length_map]; omega) ?_; (case h1 => first | rfl | (simp; done)); (case h2 => rfl); intro v6 w6 hN6 hb6 hgr hat; have FR8 := Aside0.mk (app_fr S7.out.t HBl.out hgr); have S8 := Aside0.mk (S7.out.app_t hN6 FR8.out); have HX8 := Aside0.mk (FR8.out.block HX7.out (fun hk => by have := LX7.out; omega)); have y4 : w6.cell? ⟨gb, 4, none⟩ = some (.bool M) := blk_cell HX8.out 4; clear hN6 hb6 hgr hat FO NLT HBl GLL FR8 HX7 LX7)
          | ((with_reducible refine gate_dst (N := 69) rfl ?_); refine lit_event ?hg (N := 69) ?hd (cs := #[.bool M]) (t := 4) (n := 1) ?hr ?_; (case hd => rfl); (case hg => rfl); (case hr => first | (go_simp; done) | (go_simp; rfl)); intro gl hggl wl hA hb; have HBl := Aside0.mk hb; have GLL := Aside0.mk (show w6.heap.size ≤ gl by rw [hggl]; exact Nat.le_refl _); have FO : Aside0 (Kd.F Kd.bool wl (fun k => w6.heap.size ≤ k) (some ⟨gl, 0, none⟩) 1 [M]) := ⟨F_one (cs := [.bool M]) hA GLL.out FK_b⟩; have NLT := Aside0.mk (Kd.N_lt S8.out.u); clear hggl hb hA)
          | ((with_reducible refine gate_dst (N := 70) rfl ?_); refine Kd.N_append_rows Kd.bool (w0 := wl) 0 rfl (.tmp 66) (.tmp 69) 107 4 (.bool false) 1 rfl hu107 (by kernel_rfl) rfl (by decide) (by decide) (.slice Am (fl imps).length cm) ((fl imps).map (·.f4)) [M] (some ⟨gl, 0, none⟩) 1 1 (fun k => (relab (relab L4 w9.heap.size 2) w7.heap.size 5) k = 6 ∨ w6.heap.size ≤ k) (fun k => w6.heap.size ≤ k) ?h1 ?h2 (Kd.N_mono (Kd.N_below S8.out.u HBl.out) (fun _ h => .inl h)) FO.out (fun k hk => ⟨.inr hk, fun e => by have := NLT.out k e.symm; omega⟩) (fun k hk => .inr (Nat.le_trans HBl.out.size hk)) (Below.refl _ _) (Nat.zero_le _) (by have := HF.out; have := HL2.out; rw [List.length_map]; omega) ?_; (case h1 => first | rfl | (simp; done)); (case h2 => rfl); intro v8 w8 hN6 hb6 hgr hat; have S9 := Aside0.mk (S8.out.app_u hN6 (app_fr S8.out.u HBl.out hgr)); clear hN6 hb6 hgr hat FO NLT HBl GLL HX8))
        go_roundg (20 - (imps.length + 1))
        case measure => have := I2.out; have := HL2.out; omega
        case rel => exact ⟨imps ++ [im Ki T M], _, _, _, _, by have := HL2.out; rw [List.length_append, List.length_singleton]; omega, rfl, rfl, by first | (simp; done) | go_num, S9.out.st_yes HK3.out⟩
      · have dk : (Ki == 3) = false := by simpa using hk3
        have HK3 := Aside0.mk hk3
        clear hk3
        go_wp2_with (first
          | ((with_reducible refine gate_dst (N := 56) rfl ?_); refine lit_event ?hg (N := 56) ?hd (cs := #[.string ⟨#[]⟩, .string ⟨#[]⟩, .int .i64 Ki, .int .i64 T, .bool M, .int .i64 0, .int .i64 0]) (t := 90) (n := 1) ?hr ?_; (case hd => rfl); (case hg => rfl); (case hr => first | (go_simp; done) | (go_simp; rfl)); intro gl hggl wl hA hb; have HBl := Aside0.mk hb; have GLL := Aside0.mk (show w9.heap.size ≤ gl by rw [hggl]; exact Nat.le_refl _); have FO : Aside0 (Kd.F k90 wl (fun k => w9.heap.size ≤ k) (some ⟨gl, 0, none⟩) 1 [im Ki T M]) := ⟨F_one (cs := [.string ⟨#[]⟩, .string ⟨#[]⟩, .int .i64 Ki, .int .i64 T, .bool M, .int .i64 0, .int .i64 0]) hA GLL.out FK_90⟩; have NLT := Aside0.mk (Kd.N_lt S4.out.I); clear hggl hb hA)
          | ((with_reducible refine gate_dst (N := 57) rfl ?_); refine Kd.N_append_rows k90 (w0 := wl) 0 rfl (.tmp 54) (.tmp 56) 61 90 (.agg #[.string ⟨#[]⟩, .string ⟨#[]⟩, .int .i64 0, .int .i64 0, .bool false, .int .i64 0, .int .i64 0]) 72 rfl hu61 (by kernel_rfl) rfl (by decide) (by decide) (.slice AI imps.length cI) (imps) [im Ki T M] (some ⟨gl, 0, none⟩) 1 1 (fun k => L4 k = 2 ∨ w9.heap.size ≤ k) (fun k => w9.heap.size ≤ k) ?h1 ?h2 (Kd.N_mono (Kd.N_below S4.out.I HBl.out) (fun _ h => .inl h)) FO.out (fun k hk => ⟨.inr hk, fun e => by have := NLT.out k e.symm; omega⟩) (fun k hk => .inr (Nat.le_trans HBl.out.size hk)) (Below.refl _ _) (Nat.zero_le _) (by have := HL2.out; omega) ?_; (case h1 => first | rfl | (simp; done)); (case h2 => rfl); intro v6 w6 hN6 hb6 hgr hat; obtain ⟨A4, c4, hv4⟩ := Kd.N_slice hN6; rw [List.length_append, List.length_singleton] at hv4; subst hv4; have N6 := Aside0.mk hN6; have NGM : Aside0 (some gm ≠ (.slice AI imps.length cI : Value).ownBlock) := ⟨fun e => by have h5 : L4 gm = 2 := S4.out.I.1 gm e.symm; have := S4.out.lm; omega⟩; have HM6 := Aside0.mk (blk_grown (blk_below S4.out.m HBl.out) hgr NGM.out); have FR6 : Aside0 (Fr w9 w6 (fun k => L4 k = 2)) := ⟨app_fr S4.out.I HBl.out hgr⟩; clear hN6 hb6 hgr hat FO NLT NGM)
          | ((with_reducible refine gate_store (p := 58) rfl ?_); refine storeCell_event (g := gm) (j := 1) (x := .slice A4 (imps.length + 1) c4) rfl rfl rfl rfl rfl HM6.out (by simp [mcells]) (by kernel_rfl) rfl ?_; intro w7 hA hb ho hs; have N7 := Aside0.mk (Kd.N_step N6.out (fun k hk _ => ho k (by rcases hk with hk | hk; (intro e; subst e; have := S4.out.lm; omega); (have := blk_lt S4.out.m; omega)))); have FR7 : Aside0 (Fr w9 w7 (fun k => L4 k = 2 ∨ k = gm)) := ⟨(FR6.out.mono (fun k hk => .inl hk)).then_ (Fr.stored (S := fun k => k = gm) hb ho hs rfl) (fun k hk => .inl (.inr hk))⟩; have S7 := Aside0.mk (S4.out.app_I N7.out hA FR7.out); have HX7 := Aside0.mk (FR7.out.block HX.out (fun hk => gm_ne' (c' := 8) S4.out.lm hk (by decide) (by decide) LBX.out)); have LX7 := Aside0.mk ((relab_old (c := 2) (blk_lt HX.out)).trans LBX.out); have y3 : w7.cell? ⟨gb, 3, none⟩ = some (.int .i64 T) := blk_cell HX7.out 3; clear hA hb ho hs N6 FR6 HM6 N7 FR7 HBl GLL HX LBX))
        go_roundg (20 - (imps.length + 1))
        case measure => have := I2.out; have := HL2.out; omega
        case rel => exact ⟨imps ++ [im Ki T M], _, _, _, _, by have := HL2.out; rw [List.length_append, List.length_singleton]; omega, rfl, rfl, by first | (simp; done) | go_num, S7.out.st_no HK3.out⟩
    · have hcc : (decide (imps.length < ks.length) = false ∧ decide ((imps.length : Int) < (ks.length : Int)) = false) ∨ (decide (imps.length < ks.length) = true ∧ decide (imps.length < 20) = false ∧ decide ((imps.length : Int) < 20) = false) := by
        by_cases h : imps.length < ks.length
        · exact .inr ⟨decide_eq_true h, decide_eq_false (fun h2 => hlt ⟨h, h2⟩), decide_eq_false (fun h2 => hlt ⟨h, by omega⟩)⟩
        · exact .inl ⟨decide_eq_false h, decide_eq_false (by omega)⟩
      clear hlt
      have ha := HAT.out
      have hof := HOF.out
      have hgc := get_const imps a of HA16.out
      have HLEN : Aside0 (imps.length ≤ 140737488351232) := ⟨by have := I2.out; omega⟩
      have hy : Below wr.heap.size wr wr := Below.refl _ _
      have q0 : ∀ W, Below wr.heap.size wr W → W.cell? ⟨gm, 0, none⟩ = some (.slice none 0 0) := fun W h => pw_cell_below h (blk_cell S3.out.m 0)
      have q1 : ∀ W, Below wr.heap.size wr W → W.cell? ⟨gm, 1, none⟩ = some (.slice AI imps.length cI) := fun W h => pw_cell_below h (blk_cell S3.out.m 1)
      have q2 : ∀ W, Below wr.heap.size wr W → W.cell? ⟨gm, 2, none⟩ = some (.slice none 0 0) := fun W h => pw_cell_below h (blk_cell S3.out.m 2)
      have q3 : ∀ W, Below wr.heap.size wr W → W.cell? ⟨gm, 3, none⟩ = some (.slice none 0 0) := fun W h => pw_cell_below h (blk_cell S3.out.m 3)
      have q4 : ∀ W, Below wr.heap.size wr W → W.cell? ⟨gm, 4, none⟩ = some (.slice none 0 0) := fun W h => pw_cell_below h (blk_cell S3.out.m 4)
      have q5 : ∀ W, Below wr.heap.size wr W → W.cell? ⟨gm, 5, none⟩ = some (.slice (some ⟨lg, 0, none⟩) 1 1) := fun W h => pw_cell_below h (blk_cell S3.out.m 5)
      have q6 : ∀ W, Below wr.heap.size wr W → W.cell? ⟨gm, 6, none⟩ = some (.slice none 0 0) := fun W h => pw_cell_below h (blk_cell S3.out.m 6)
      have q7 : ∀ W, Below wr.heap.size wr W → W.cell? ⟨gm, 7, none⟩ = some (.int .i64 0) := fun W h => pw_cell_below h (blk_cell S3.out.m 7)
      have q8 : ∀ W, Below wr.heap.size wr W → W.cell? ⟨gm, 8, none⟩ = some (.slice none 0 0) := fun W h => pw_cell_below h (blk_cell S3.out.m 8)
      have q9 : ∀ W, Below wr.heap.size wr W → W.cell? ⟨gm, 9, none⟩ = some (.slice none 0 0) := fun W h => pw_cell_below h (blk_cell S3.out.m 9)
      have q10 : ∀ W, Below wr.heap.size wr W → W.cell? ⟨gm, 10, none⟩ = some (.slice none 0 0) := fun W h => pw_cell_below h (blk_cell S3.out.m 10)
      have ha0 : (0 : Int) ≤ (a : Int) := by omega
      by_cases hN : a < (fl imps).length
      · obtain ⟨am, rfl, zm0⟩ := bool_at (Kd.N_reads' S3.out.u).2.2 a (by rw [List.length_map]; exact hN)
        obtain ⟨ta, rfl, zt0⟩ := int_at (Kd.N_reads' S3.out.t).2.2 a (by rw [List.length_map]; exact hN)
        have em : ((fl imps).map (·.f4)).getD a false = ((fl imps).getD a z90).f4 := by simp [List.getD_eq_getElem?_getD, hN]
        have et : ((fl imps).map (·.f3)).getD a 0 = ((fl imps).getD a z90).f3 := by simp [List.getD_eq_getElem?_getD, hN]
        rw [em] at zm0
        rw [et] at zt0
        have zm : ∀ W, Below wr.heap.size wr W → W.cell? (am.add a) = some (.bool ((fl imps).getD a z90).f4) := fun W h => pw_cell_below h zm0
        have zt : ∀ W, Below wr.heap.size wr W → W.cell? (ta.add a) = some (.int .i64 ((fl imps).getD a z90).f3) := fun W h => pw_cell_below h zt0
        have dN : decide ((fl imps).length ≤ a) = false := decide_eq_false (by omega)
        have dN2 : decide (((fl imps).length : Int) ≤ (a : Int)) = false := decide_eq_false (by omega)
        have hN2 : (a : Int) < ((fl imps).length : Int) := by omega
        clear em et zm0 zt0
        generalize ((fl imps).getD a z90) = z at *
        cases hm : z.f4 with
        | true =>
          rw [hm] at zm
          have HR : Aside0 (constL imps (leaf 35 (a : Int) 0) of = 2000) := ⟨by rw [hgc, if_neg (by rw [hm]; simp)]⟩
          clear hgc
          rcases hcc with ⟨dl1, dl2⟩ | ⟨dl1, dl2, dl3⟩
          all_goals
            go_wp2_with (first
              | ((with_reducible refine gate_dst (N := 79) rfl ?_); refine lit_event ?hg (N := 79) ?hd (cs := #[.int .i64 35, .int .i64 (a : Int), .int .i64 0, .int .i64 0, .int .i64 0, .slice none 0 0, .slice none 0 0, .slice none 0 0]) (t := 106) (n := 1) ?hr ?_; (case hd => rfl); (case hg => rfl); (case hr => first | (go_simp; done) | (go_simp; rfl)); intro l79 hgl79 u1 hA hb; have L79 := Aside0.mk hA; have hy0 := hy; clear hy; have hy : Below wr.heap.size wr u1 := below_step hy0 hb; clear hy0; clear hA hb hgl79)
              | (go_at_call 41; (with_reducible refine (leaf_check (imps := imps) (gs := [⟨127, false, []⟩]) (a0 := 35) (a1 := (a : Int)) (a3 := 0) (ni := imps.length) (ng := 1) (t := of) (r := 2000) HLEN.out (by decide) rfl (by decide) (Kd.N_reads' (S3.out.call hy).I).2.2 (gs_at (S3.out.call hy).g) L79.out HR.out).mono ?_); rintro e u2 ⟨rfl, hb⟩; have hy0 := hy; clear hy; have hy : Below wr.heap.size wr u2 := below_step hy0 hb; clear hy0; clear hb L79)
              | ((with_reducible refine gate_dst (N := 86) rfl ?_); refine lit_event ?hg (N := 86) ?hd (cs := #[.int .i64 35, .int .i64 (a : Int), .int .i64 0, .int .i64 0, .int .i64 0, .slice none 0 0, .slice none 0 0, .slice none 0 0]) (t := 106) (n := 1) ?hr ?_; (case hd => rfl); (case hg => rfl); (case hr => first | (go_simp; done) | (go_simp; rfl)); intro l86 hgl86 u3 hA hb; have L86 := Aside0.mk hA; have hy0 := hy; clear hy; have hy : Below wr.heap.size wr u3 := below_step hy0 hb; clear hy0; clear hA hb hgl86)
              | (go_at_call 42; (with_reducible refine (leaf_value (a0 := 35) (a1 := (a : Int)) (a3 := 0) (v := 0) (b := 0) (e := 2000) L86.out (get_val a)).mono ?_); rintro e u4 ⟨rfl, hb⟩; have hy0 := hy; clear hy; have hy : Below wr.heap.size wr u4 := below_step hy0 hb; clear hy0; clear hb L86)
              | ((with_reducible refine gate_dst (N := 16) rfl ?_); refine box_event ?hg (N := 16) ?hd (cs := #[.int .i64 0, .int .i64 0]) (t := 56) ?hr ?_; (case hd => rfl); (case hg => rfl); (case hr => first | (go_simp; done) | (go_simp; rfl)); intro g16 hgg16 u5 hA hb; have G16 := Aside0.mk (show wr.heap.size ≤ g16 by rw [hgg16]; exact hy.size); have K16 := Aside0.mk hA; have hy0 := hy; clear hy; have hy : Below wr.heap.size wr u5 := below_step hy0 hb; clear hy0; clear hA hb hgg16)
              | ((with_reducible refine gate_store (p := 16) rfl ?_); refine storeRow_event (g := g16) rfl rfl rfl (cs := #[.int .i64 0, .int .i64 0]) rfl rfl K16.out (by kernel_rfl) rfl (by simp [Value.oneCell']) ?_; intro u6 hA hb ho hs; have hy0 := hy; clear hy; have hy : Below wr.heap.size wr u6 := hb _ _ G16.out hy0; clear hy0 hA hb ho hs K16)
              | (go_at_call 20; (with_reducible refine (num_calls _ _).mono ?_); rintro e uz ⟨rfl, hb⟩; have hy0 := hy; clear hy; have hy : Below wr.heap.size wr uz := below_step hy0 hb; clear hy0; clear hb))
            go_ret
            exact ⟨rfl, below_step S3.out.bel hy⟩
        | false =>
          rw [hm] at zm
          cases ht : (z.f3 != of) with
          | true =>
            have HR : Aside0 (constL imps (leaf 35 (a : Int) 0) of = 2001) := ⟨by rw [hgc, if_pos ⟨hN, hm⟩, if_neg (by simpa using ht)]⟩
            clear hgc
            rcases hcc with ⟨dl1, dl2⟩ | ⟨dl1, dl2, dl3⟩
            all_goals
              go_wp2_with (first
                | ((with_reducible refine gate_dst (N := 79) rfl ?_); refine lit_event ?hg (N := 79) ?hd (cs := #[.int .i64 35, .int .i64 (a : Int), .int .i64 0, .int .i64 0, .int .i64 0, .slice none 0 0, .slice none 0 0, .slice none 0 0]) (t := 106) (n := 1) ?hr ?_; (case hd => rfl); (case hg => rfl); (case hr => first | (go_simp; done) | (go_simp; rfl)); intro l79 hgl79 u1 hA hb; have L79 := Aside0.mk hA; have hy0 := hy; clear hy; have hy : Below wr.heap.size wr u1 := below_step hy0 hb; clear hy0; clear hA hb hgl79)
                | (go_at_call 41; (with_reducible refine (leaf_check (imps := imps) (gs := [⟨127, false, []⟩]) (a0 := 35) (a1 := (a : Int)) (a3 := 0) (ni := imps.length) (ng := 1) (t := of) (r := 2001) HLEN.out (by decide) rfl (by decide) (Kd.N_reads' (S3.out.call hy).I).2.2 (gs_at (S3.out.call hy).g) L79.out HR.out).mono ?_); rintro e u2 ⟨rfl, hb⟩; have hy0 := hy; clear hy; have hy : Below wr.heap.size wr u2 := below_step hy0 hb; clear hy0; clear hb L79)
                | ((with_reducible refine gate_dst (N := 86) rfl ?_); refine lit_event ?hg (N := 86) ?hd (cs := #[.int .i64 35, .int .i64 (a : Int), .int .i64 0, .int .i64 0, .int .i64 0, .slice none 0 0, .slice none 0 0, .slice none 0 0]) (t := 106) (n := 1) ?hr ?_; (case hd => rfl); (case hg => rfl); (case hr => first | (go_simp; done) | (go_simp; rfl)); intro l86 hgl86 u3 hA hb; have L86 := Aside0.mk hA; have hy0 := hy; clear hy; have hy : Below wr.heap.size wr u3 := below_step hy0 hb; clear hy0; clear hA hb hgl86)
                | (go_at_call 42; (with_reducible refine (leaf_value (a0 := 35) (a1 := (a : Int)) (a3 := 0) (v := 0) (b := 0) (e := 2000) L86.out (get_val a)).mono ?_); rintro e u4 ⟨rfl, hb⟩; have hy0 := hy; clear hy; have hy : Below wr.heap.size wr u4 := below_step hy0 hb; clear hy0; clear hb L86)
                | ((with_reducible refine gate_dst (N := 16) rfl ?_); refine box_event ?hg (N := 16) ?hd (cs := #[.int .i64 0, .int .i64 0]) (t := 56) ?hr ?_; (case hd => rfl); (case hg => rfl); (case hr => first | (go_simp; done) | (go_simp; rfl)); intro g16 hgg16 u5 hA hb; have G16 := Aside0.mk (show wr.heap.size ≤ g16 by rw [hgg16]; exact hy.size); have K16 := Aside0.mk hA; have hy0 := hy; clear hy; have hy : Below wr.heap.size wr u5 := below_step hy0 hb; clear hy0; clear hA hb hgg16)
                | ((with_reducible refine gate_store (p := 16) rfl ?_); refine storeRow_event (g := g16) rfl rfl rfl (cs := #[.int .i64 0, .int .i64 0]) rfl rfl K16.out (by kernel_rfl) rfl (by simp [Value.oneCell']) ?_; intro u6 hA hb ho hs; have hy0 := hy; clear hy; have hy : Below wr.heap.size wr u6 := hb _ _ G16.out hy0; clear hy0 hA hb ho hs K16)
                | (go_at_call 20; (with_reducible refine (num_calls _ _).mono ?_); rintro e uz ⟨rfl, hb⟩; have hy0 := hy; clear hy; have hy : Below wr.heap.size wr uz := below_step hy0 hb; clear hy0; clear hb))
              go_ret
              exact ⟨rfl, below_step S3.out.bel hy⟩
          | false =>
            have HR : Aside0 (constL imps (leaf 35 (a : Int) 0) of = 0) := ⟨by rw [hgc, if_pos ⟨hN, hm⟩, if_pos (by simpa using ht)]⟩
            clear hgc
            rcases hcc with ⟨dl1, dl2⟩ | ⟨dl1, dl2, dl3⟩
            all_goals
              go_wp2_with (first
                | ((with_reducible refine gate_dst (N := 79) rfl ?_); refine lit_event ?hg (N := 79) ?hd (cs := #[.int .i64 35, .int .i64 (a : Int), .int .i64 0, .int .i64 0, .int .i64 0, .slice none 0 0, .slice none 0 0, .slice none 0 0]) (t := 106) (n := 1) ?hr ?_; (case hd => rfl); (case hg => rfl); (case hr => first | (go_simp; done) | (go_simp; rfl)); intro l79 hgl79 u1 hA hb; have L79 := Aside0.mk hA; have hy0 := hy; clear hy; have hy : Below wr.heap.size wr u1 := below_step hy0 hb; clear hy0; clear hA hb hgl79)
                | (go_at_call 41; (with_reducible refine (leaf_check (imps := imps) (gs := [⟨127, false, []⟩]) (a0 := 35) (a1 := (a : Int)) (a3 := 0) (ni := imps.length) (ng := 1) (t := of) (r := 0) HLEN.out (by decide) rfl (by decide) (Kd.N_reads' (S3.out.call hy).I).2.2 (gs_at (S3.out.call hy).g) L79.out HR.out).mono ?_); rintro e u2 ⟨rfl, hb⟩; have hy0 := hy; clear hy; have hy : Below wr.heap.size wr u2 := below_step hy0 hb; clear hy0; clear hb L79)
                | ((with_reducible refine gate_dst (N := 86) rfl ?_); refine lit_event ?hg (N := 86) ?hd (cs := #[.int .i64 35, .int .i64 (a : Int), .int .i64 0, .int .i64 0, .int .i64 0, .slice none 0 0, .slice none 0 0, .slice none 0 0]) (t := 106) (n := 1) ?hr ?_; (case hd => rfl); (case hg => rfl); (case hr => first | (go_simp; done) | (go_simp; rfl)); intro l86 hgl86 u3 hA hb; have L86 := Aside0.mk hA; have hy0 := hy; clear hy; have hy : Below wr.heap.size wr u3 := below_step hy0 hb; clear hy0; clear hA hb hgl86)
                | (go_at_call 42; (with_reducible refine (leaf_value (a0 := 35) (a1 := (a : Int)) (a3 := 0) (v := 0) (b := 0) (e := 2000) L86.out (get_val a)).mono ?_); rintro e u4 ⟨rfl, hb⟩; have hy0 := hy; clear hy; have hy : Below wr.heap.size wr u4 := below_step hy0 hb; clear hy0; clear hb L86)
                | ((with_reducible refine gate_dst (N := 16) rfl ?_); refine box_event ?hg (N := 16) ?hd (cs := #[.int .i64 0, .int .i64 0]) (t := 56) ?hr ?_; (case hd => rfl); (case hg => rfl); (case hr => first | (go_simp; done) | (go_simp; rfl)); intro g16 hgg16 u5 hA hb; have G16 := Aside0.mk (show wr.heap.size ≤ g16 by rw [hgg16]; exact hy.size); have K16 := Aside0.mk hA; have hy0 := hy; clear hy; have hy : Below wr.heap.size wr u5 := below_step hy0 hb; clear hy0; clear hA hb hgg16)
                | ((with_reducible refine gate_store (p := 16) rfl ?_); refine storeRow_event (g := g16) rfl rfl rfl (cs := #[.int .i64 0, .int .i64 0]) rfl rfl K16.out (by kernel_rfl) rfl (by simp [Value.oneCell']) ?_; intro u6 hA hb ho hs; have hy0 := hy; clear hy; have hy : Below wr.heap.size wr u6 := hb _ _ G16.out hy0; clear hy0 hA hb ho hs K16)
                | (go_at_call 20; (with_reducible refine (num_calls _ _).mono ?_); rintro e uz ⟨rfl, hb⟩; have hy0 := hy; clear hy; have hy : Below wr.heap.size wr uz := below_step hy0 hb; clear hy0; clear hb))
              go_ret
              exact ⟨rfl, below_step S3.out.bel hy⟩
      · have dN : decide ((fl imps).length ≤ a) = true := decide_eq_true (by omega)
        have dN2 : decide (((fl imps).length : Int) ≤ (a : Int)) = true := decide_eq_true (by omega)
        have HR : Aside0 (constL imps (leaf 35 (a : Int) 0) of = 2000) := ⟨by rw [hgc, if_neg (fun h => hN h.1)]⟩
        clear hgc
        rcases hcc with ⟨dl1, dl2⟩ | ⟨dl1, dl2, dl3⟩
        all_goals
          go_wp2_with (first
            | ((with_reducible refine gate_dst (N := 79) rfl ?_); refine lit_event ?hg (N := 79) ?hd (cs := #[.int .i64 35, .int .i64 (a : Int), .int .i64 0, .int .i64 0, .int .i64 0, .slice none 0 0, .slice none 0 0, .slice none 0 0]) (t := 106) (n := 1) ?hr ?_; (case hd => rfl); (case hg => rfl); (case hr => first | (go_simp; done) | (go_simp; rfl)); intro l79 hgl79 u1 hA hb; have L79 := Aside0.mk hA; have hy0 := hy; clear hy; have hy : Below wr.heap.size wr u1 := below_step hy0 hb; clear hy0; clear hA hb hgl79)
            | (go_at_call 41; (with_reducible refine (leaf_check (imps := imps) (gs := [⟨127, false, []⟩]) (a0 := 35) (a1 := (a : Int)) (a3 := 0) (ni := imps.length) (ng := 1) (t := of) (r := 2000) HLEN.out (by decide) rfl (by decide) (Kd.N_reads' (S3.out.call hy).I).2.2 (gs_at (S3.out.call hy).g) L79.out HR.out).mono ?_); rintro e u2 ⟨rfl, hb⟩; have hy0 := hy; clear hy; have hy : Below wr.heap.size wr u2 := below_step hy0 hb; clear hy0; clear hb L79)
            | ((with_reducible refine gate_dst (N := 86) rfl ?_); refine lit_event ?hg (N := 86) ?hd (cs := #[.int .i64 35, .int .i64 (a : Int), .int .i64 0, .int .i64 0, .int .i64 0, .slice none 0 0, .slice none 0 0, .slice none 0 0]) (t := 106) (n := 1) ?hr ?_; (case hd => rfl); (case hg => rfl); (case hr => first | (go_simp; done) | (go_simp; rfl)); intro l86 hgl86 u3 hA hb; have L86 := Aside0.mk hA; have hy0 := hy; clear hy; have hy : Below wr.heap.size wr u3 := below_step hy0 hb; clear hy0; clear hA hb hgl86)
            | (go_at_call 42; (with_reducible refine (leaf_value (a0 := 35) (a1 := (a : Int)) (a3 := 0) (v := 0) (b := 0) (e := 2000) L86.out (get_val a)).mono ?_); rintro e u4 ⟨rfl, hb⟩; have hy0 := hy; clear hy; have hy : Below wr.heap.size wr u4 := below_step hy0 hb; clear hy0; clear hb L86)
            | ((with_reducible refine gate_dst (N := 16) rfl ?_); refine box_event ?hg (N := 16) ?hd (cs := #[.int .i64 0, .int .i64 0]) (t := 56) ?hr ?_; (case hd => rfl); (case hg => rfl); (case hr => first | (go_simp; done) | (go_simp; rfl)); intro g16 hgg16 u5 hA hb; have G16 := Aside0.mk (show wr.heap.size ≤ g16 by rw [hgg16]; exact hy.size); have K16 := Aside0.mk hA; have hy0 := hy; clear hy; have hy : Below wr.heap.size wr u5 := below_step hy0 hb; clear hy0; clear hA hb hgg16)
            | ((with_reducible refine gate_store (p := 16) rfl ?_); refine storeRow_event (g := g16) rfl rfl rfl (cs := #[.int .i64 0, .int .i64 0]) rfl rfl K16.out (by kernel_rfl) rfl (by simp [Value.oneCell']) ?_; intro u6 hA hb ho hs; have hy0 := hy; clear hy; have hy : Below wr.heap.size wr u6 := hb _ _ G16.out hy0; clear hy0 hA hb ho hs K16)
            | (go_at_call 20; (with_reducible refine (num_calls _ _).mono ?_); rintro e uz ⟨rfl, hb⟩; have hy0 := hy; clear hy; have hy : Below wr.heap.size wr uz := below_step hy0 hb; clear hy0; clear hb))
          go_ret
          exact ⟨rfl, below_step S3.out.bel hy⟩
end Go.Proofs.Ytmofdpkddimmlaa.EInstr
