/-
  What the claim leans on, in the order of its making: words about values and worlds, the printed functions, the decoder in plain words and its walk. Cut to what is used by wip/tools/prune15.py. (EDecLocals1)
-/
import Derived.Test.YtkdoijfjceeblaaDoorQEDecLoc
namespace Go.Proofs.YtkdoijfjceeblaaDoor.EDec
open Go Go.RowKit Go.Proofs.YtkdoijfjceeblaaDoor.F Go.Proofs.YtkdoijfjceeblaaDoorW.Hand Go.Proofs.YtkdoijfjceeblaaDoorW.PrintWords Go.Proofs.YtkdoijfjceeblaaDoorW.PrintLast Go.Proofs.YtkdoijfjceeblaaDoorW.PrintMore
open Go.Proofs.YtkdoijfjceeblaaDoor.LebGets (G)
open Go.Proofs.YtkdoijfjceeblaaDoor.ENames (Tabs tabs_below nget nmay)
open Go.Proofs.YtkdoijfjceeblaaDoor.EInstr (GRes pGet get_b ret_int wrap_bt)
set_option linter.unusedVariables false
set_option linter.unusedSimpArgs false
theorem mod_code_c {s : ByteArray} {mT : Mod} {l : S57} {N : Nat} (h : dMod s = .ok mT) (ht : mT.codes = [l]) (hN : l.f0.length = N) {W : World} (hT : Tabs W) : Calls Tryd.prog 13 #[.string s] W fun e w' => ∃ ad P0 d0 c9 A0 c0 A1 c1 A2 c2 A3 c3 A4 c4 A5 c5 A6 c6 A8 c8 A10 c10, e = .returned (.tuple #[.agg #[.slice A0 mT.types.length c0, .slice A1 mT.imports.length c1, .slice A2 mT.funcs.length c2, .slice A3 mT.tables.length c3, .slice A4 mT.mems.length c4, .slice A5 mT.globals.length c5, .slice A6 mT.exports.length c6, .int .i64 mT.start, .slice A8 mT.elems.length c8, .slice (some ad) 1 c9, .slice A10 mT.datas.length c10], .int .i64 0]) ∧ w'.cell? ad = some (.slice P0 N d0) ∧ (Kd.int .i64).C w' P0 N l.f0 ∧ Below W.heap.size W w' := by
  subst hN
  refine (mod_ok_c h hT (Below.refl W.heap.size W)).mono ?_
  rintro e w' ⟨A0, c0, A1, c1, A2, c2, A3, c3, A4, c4, A5, c5, A6, c6, A8, c8, A9, c9, A10, c10, rfl, ⟨u0, u1, u2, u3, u4, u5, u6, u8, u9, u10, hu, g0, g1, g2, g3, g4, g5, g6, g8, g9, _⟩, hb⟩
  simp only [Value.agg.injEq, Array.mk.injEq, List.cons.injEq] at hu
  rw [← hu.2.2.2.2.2.2.2.2.2.1] at g9
  have e1 : mT.codes.length = 1 := by rw [ht]; rfl
  obtain ⟨-, -, C0⟩ := Kd.R_reads' g9
  rw [ht] at C0
  obtain ⟨ad, P0, d0, P1, d1, rfl, z⟩ := at_T57 C0 0 (Int.le_refl _) (by simp)
  have ea : ad.add ((0 : Int).toNat * 2) = ad := by
    have e : ((0 : Int).toNat * 2) = 0 := rfl
    rw [e]; unfold Addr.add; split <;> simp_all
  rw [ea] at z
  rw [e1]
  exact ⟨ad, P0, d0, c9, A0, c0, A1, c1, A2, c2, A3, c3, A4, c4, A5, c5, A6, c6, A8, c8, A10, c10, rfl, z.1, z.2.2.2.1, hb⟩
theorem wrap_succ {n : Nat} (h : (n : Int) ≤ 1000) : wrap64 ((n : Int) + 1) = (n : Int) + 1 := by unfold wrap64; omega
set_option maxHeartbeats 8000000 in
set_option maxRecDepth 100000 in
theorem locals_long (a0 a1 a2 : Int) (X Y N : Nat) (k : Int) (hx : Go.bits .and .i64 a0 255 = (X : Int)) (hy : Go.bits .and .i64 a1 255 = (Y : Int)) (hk : wrap64 (127 - wrap64 ((IntKind.u64.wrap a2).tmod 4)) % 256 = k) (rk : 124 ≤ k ∧ k ≤ 127) (hX : X < 256) (hY : Y < 256) (hN : X + Y = N) (h256 : 256 < N) (W : World) (hT : Tabs W) : Calls Tryd.prog 11 #[.int .i64 a0, .int .i64 a1, .int .i64 a2] W fun e w' => e = .returned (.bool true) ∧ Below W.heap.size W w' := by
  have HT := Aside0.mk hT
  have HB0 := Aside0.mk (Below.refl W.heap.size W)
  have HKK := Aside0.mk hk
  have HXX := Aside0.mk hx
  have HYY := Aside0.mk hy
  clear hk hx hy hT
  have zb := locB_size X k Y
  have zx := lebS_size X
  have zy := lebS_size Y
  have s1 : (strOfNums [k]).size = 1 := str_size _
  have hs : (X : Int) + (Y : Int) = (N : Int) := by omega
  obtain ⟨B, hB⟩ : ∃ B, ((⟨#[2]⟩ : ByteArray) ++ lebS (X : Int) ++ strOfNums [k] ++ lebS (Y : Int) ++ ⟨#[127, 11]⟩) = B := ⟨_, rfl⟩
  have hBl : locB X k Y = B := hB
  have lA := loc_mod (z := (B.size : Int)) (x := X) (y := Y) (k := k) (by rw [← hBl]; omega) (by omega) (by omega) rk
  have lB := loc_mod (z := (B.size : Int) + 1) (x := X) (y := Y) (k := k) (by rw [← hBl]; omega) (by omega) (by omega) rk
  rw [hBl] at lA lB zb
  simp only [locP, hBl, Int.toNat_natCast] at lA lB
  rw [← ByteArray.append_assoc (a := ⟨#[1]⟩) (b := lebS ((B.size : Int) + 1))] at lB
  have zz := lebS_size (B.size : Int)
  have zz1 := lebS_size ((B.size : Int) + 1)
  have t1 : (⟨#[1]⟩ : ByteArray).size = 1 := rfl
  have t3 : (⟨#[1, 0]⟩ : ByteArray).size = 2 := rfl
  have p3 := secS_size 3 ⟨#[1, 0]⟩
  obtain ⟨P, hP⟩ : ∃ P, (⟨#[1]⟩ : ByteArray) ++ (lebS (B.size : Int) ++ B) = P := ⟨_, rfl⟩
  obtain ⟨Q, hQ⟩ : ∃ Q, (⟨#[1]⟩ : ByteArray) ++ lebS ((B.size : Int) + 1) ++ B = Q := ⟨_, rfl⟩
  have zP : P.size ≤ 100 := by rw [← hP]; simp only [ByteArray.size_append]; omega
  have zQ : Q.size ≤ 100 := by rw [← hQ]; simp only [ByteArray.size_append]; omega
  have pP := secS_size 10 P
  have pQ := secS_size 10 Q
  rw [hP] at lA
  rw [hQ] at lB
  have S3 := Aside0.mk (show (⟨#[1, 0]⟩ : ByteArray).size ≤ 140737488355328 by omega)
  have SP := Aside0.mk (show P.size ≤ 140737488355328 by omega)
  have SQ := Aside0.mk (show Q.size ≤ 140737488355328 by omega)
  have n1 := sum_ok (a := 1) (b := (lebS (X : Int)).size) (by omega)
  have n2 : ¬ 9223372036854775807 < 1 + (lebS (X : Int)).size + (strOfNums [k]).size := by omega
  have n3 : ¬ 9223372036854775807 < 1 + (lebS (X : Int)).size + (strOfNums [k]).size + (lebS (Y : Int)).size := by omega
  have n4 : ¬ 9223372036854775807 < 1 + (lebS (X : Int)).size + (strOfNums [k]).size + (lebS (Y : Int)).size + 2 := by omega
  have n5 := sum_ok (a := (lebS (B.size : Int)).size) (b := B.size) (by omega)
  have n6 : ¬ 9223372036854775807 < 1 + ((lebS (B.size : Int)).size + B.size) := by omega
  have n6' : ¬ 9223372036854775807 < 1 + (lebS (B.size : Int) ++ B).size := by rw [ByteArray.size_append]; omega
  have n7 : ¬ 9223372036854775807 < 8 + (secS 3 ⟨#[1, 0]⟩).size := by omega
  have n8 : ¬ 9223372036854775807 < 8 + (secS 3 ⟨#[1, 0]⟩).size + (secS 10 P).size := by omega
  have n9 : ¬ 9223372036854775807 < 8 + (secS 3 ⟨#[1, 0]⟩).size + (secS 10 Q).size := by omega
  have m1 := sum_ok (a := 1) (b := (lebS ((B.size : Int) + 1)).size) (by omega)
  have m2 : ¬ 9223372036854775807 < 1 + (lebS ((B.size : Int) + 1)).size + B.size := by omega
  have b1 : (B.size : Int) ≤ 1000 := by omega
  have b2 : (N : Int) ≤ 600 := by omega
  have b3 : 124 ≤ k := rk.1
  have b4 : k ≤ 127 := rk.2
  have b5 : (X : Int) ≤ 255 := by omega
  have b6 : (Y : Int) ≤ 255 := by omega
  rw [if_neg (by omega)] at lA lB
  have EA := Aside0.mk lA
  have EB := Aside0.mk lB
  have d1 : decide ((256 : Int) < (N : Int)) = true := decide_eq_true (by omega)
  clear zb zx zy s1 hBl zz zz1 t1 t3 p3 zP zQ pP pQ lA lB rk hX hY hN
  have hw := wrap_succ b1
  have hk := HKK.out
  have hx := HXX.out
  have hy := HYY.out
  clear HKK HXX HYY
  go_enter Tryd.func11, Tryd.ntmps11
  go_wp2_with (first
    | (go_at_call 12; (with_reducible refine (awake_c HT.out HB0.out).mono ?_); rintro e w1 ⟨rfl, hb⟩; have HB1 := Aside0.mk hb; clear hb HB0))
  obtain ⟨WD, hWD⟩ : ∃ WD, WD = w1 := ⟨_, rfl⟩
  subst hWD
  have HR0 : Aside0 (Below W.heap.size W WD.drew) := ⟨below_drew HB1.out⟩
  refine start_ (n := 12) (S := fun w' => True) (ds := []) #[false, false, false, false, false, false, false, false, false, false, false, false] (by kernel_rfl) rfl rfl trivial (fun hHeld => ?_)
  refine pure_ (i := 0) (N := some 29) (v := ?_) (a' := ?_) #[true, false, false, false, false, false, false, false, false, false, false, false] rfl rfl (by kernel_rfl) (fun _ _ _ h => h) (Or.inl ⟨by rfl, ?_⟩) ?_ ?_
  rotate_left
  · intro w'
    go_simp
    with_reducible rfl
  rotate_left
  · simp only [Act.put, List.setIfInBounds_toArray, List.set_cons_zero, List.set_cons_succ, i64_w, i32_w]
    rfl
  refine pure_ (i := 3) (N := some 32) (v := ?_) (a' := ?_) #[true, false, false, true, false, false, false, false, false, false, false, false] rfl rfl (by kernel_rfl) (fun _ _ _ h => h) (Or.inl ⟨by rfl, ?_⟩) ?_ ?_
  rotate_left
  · intro w'
    go_simp
    with_reducible rfl
  rotate_left
  · simp only [Act.put, List.setIfInBounds_toArray, List.set_cons_zero, List.set_cons_succ, i64_w, i32_w]
    rfl
  refine pure_ (i := 7) (N := some 36) (v := ?_) (a' := ?_) #[true, false, false, true, false, false, false, true, false, false, false, false] rfl rfl (by kernel_rfl) (fun _ _ _ h => h) (Or.inl ⟨by rfl, ?_⟩) ?_ ?_
  rotate_left
  · intro w'
    go_simp
    with_reducible rfl
  rotate_left
  · simp only [Act.put, List.setIfInBounds_toArray, List.set_cons_zero, List.set_cons_succ, i64_w, i32_w]
    rfl
  refine join_ (σ := Value) 3 #[true, true, true, true, true, true, true, true, true, false, false, false] (fun s => [(30, .string (lebS (X : Int))), (33, s), (34, .string (strOfNums [k])), (37, .string (lebS (Y : Int))), (31, .string ((⟨#[2]⟩ : ByteArray) ++ lebS (X : Int))), (35, .string ((⟨#[2]⟩ : ByteArray) ++ lebS (X : Int) ++ strOfNums [k]))]) (fun s W1 => Below W.heap.size W W1) ?_ ?_
  rotate_left
  · intro hCont
    refine two_ (i := 1) (j := 4) (Ni := some 30) (Nj := some 33) #[true, true, false, true, false, false, false, true, false, false, false, false] #[true, false, false, true, true, false, false, true, false, false, false, false] rfl rfl rfl rfl (by kernel_rfl) (by decide) (by decide) (fun K hK => ?_) (fun K hK => ?_)
    · skip
      refine goes_ Tryd.func17 (by kernel_rfl) rfl #[.int .i64 X] (by rfl) rfl rfl (by simp only [List.map_toArray, List.map_cons, List.map_nil]; rfl) ?_
      with_reducible refine (leb_is _ (Below.refl WD.drew.heap.size WD.drew)).mono ?_
      rintro e wr1 ⟨rfl, hb⟩
      refine ⟨_, rfl, ?_⟩
      have HR1 := Aside0.mk (below_step HR0.out hb)
      clear hb HR0
      refine hK.out _ _ trivial (fun hHeld => ?_)
      clear hK K
      refine norm_ (a' := ?_) ?_ ?_
      rotate_left
      · show Act.put _ (some 30) _ = _
        simp only [Act.put, List.setIfInBounds_toArray, List.set_cons_zero, List.set_cons_succ, i64_w, i32_w]
        rfl
      refine pure_ (i := 2) (N := some 31) (v := ?_) (a' := ?_) #[true, true, true, true, false, false, false, true, false, false, false, false] rfl rfl (by kernel_rfl) (fun _ _ _ h => h) (Or.inl ⟨by rfl, ?_⟩) ?_ ?_
      rotate_left
      · intro w'
        go_simp
        with_reducible rfl
      rotate_left
      · simp only [Act.put, List.setIfInBounds_toArray, List.set_cons_zero, List.set_cons_succ, i64_w, i32_w]
        rfl
      refine two_ (i := 4) (j := 8) (Ni := some 33) (Nj := some 37) #[true, true, true, true, true, false, false, true, false, false, false, false] #[true, true, true, true, false, false, false, true, true, false, false, false] rfl rfl rfl rfl (by kernel_rfl) (by decide) (by decide) (fun K hK => ?_) (fun K hK => ?_)
      · skip
        refine lit_step ?hw (N := 33) ?hd (cs := #[.int .u8 k]) (t := 5) (n := 1) ?hr ?_
        case hw => rfl
        case hd => rfl
        case hr => first | (go_simp; done) | (go_simp; rfl)
        intro g hg wr2 hA hb
        have G1 := Aside0.mk hA
        have HR2 := Aside0.mk (below_step HR1.out hb)
        clear hA hb hg HR1
        refine hK.out _ _ trivial (fun hHeld => ?_)
        clear hK K
        refine norm_ (a' := ?_) ?_ ?_
        rotate_left
        · show Act.put _ (some 33) _ = _
          simp only [Act.put, List.setIfInBounds_toArray, List.set_cons_zero, List.set_cons_succ, i64_w, i32_w]
          rfl
        refine two_ (i := 5) (j := 8) (Ni := some 34) (Nj := some 37) #[true, true, true, true, true, true, false, true, false, false, false, false] #[true, true, true, true, true, false, false, true, true, false, false, false] rfl rfl rfl rfl (by kernel_rfl) (by decide) (by decide) (fun K hK => ?_) (fun K hK => ?_)
        · skip
          refine value_ (w1 := wr2) (v := .string (strOfNums [k])) (by rfl) rfl ?_ ?_
          · exact conv1 k G1.out (by rfl)
          refine hK.out _ _ trivial (fun hHeld => ?_)
          clear hK K
          refine norm_ (a' := ?_) ?_ ?_
          rotate_left
          · show Act.put _ (some 34) _ = _
            simp only [Act.put, List.setIfInBounds_toArray, List.set_cons_zero, List.set_cons_succ, i64_w, i32_w]
            rfl
          refine pure_ (i := 6) (N := some 35) (v := ?_) (a' := ?_) #[true, true, true, true, true, true, true, true, false, false, false, false] rfl rfl (by kernel_rfl) (fun _ _ _ h => h) (Or.inl ⟨by rfl, ?_⟩) ?_ ?_
          rotate_left
          · intro w'
            go_simp
            with_reducible rfl
          rotate_left
          · simp only [Act.put, List.setIfInBounds_toArray, List.set_cons_zero, List.set_cons_succ, i64_w, i32_w]
            rfl
          refine one_ (i := 8) (N := some 37) #[true, true, true, true, true, true, true, true, true, false, false, false] rfl rfl (by kernel_rfl) (by decide) (fun K hK => ?_)
          refine goes_ Tryd.func17 (by kernel_rfl) rfl #[.int .i64 Y] (by rfl) rfl rfl (by simp only [List.map_toArray, List.map_cons, List.map_nil]; rfl) ?_
          with_reducible refine (leb_is _ (Below.refl wr2.heap.size wr2)).mono ?_
          rintro e wr3 ⟨rfl, hb⟩
          refine ⟨_, rfl, ?_⟩
          have HR3 := Aside0.mk (below_step HR2.out hb)
          have G1b := Aside0.mk (blk_below G1.out hb)
          clear G1
          have G1 := G1b
          clear G1b
          clear hb HR2
          refine hK.out _ _ trivial (fun hHeld => ?_)
          clear hK K
          refine norm_ (a' := ?_) ?_ ?_
          rotate_left
          · show Act.put _ (some 37) _ = _
            simp only [Act.put, List.setIfInBounds_toArray, List.set_cons_zero, List.set_cons_succ, i64_w, i32_w]
            rfl
          exact norm_ (by simp only [putAll, Act.put, List.setIfInBounds_toArray, List.set_cons_zero, List.set_cons_succ]) (hCont (.slice (some ⟨g, 0, none⟩) 1 1) _ HR3.out)
        · skip
          refine goes_ Tryd.func17 (by kernel_rfl) rfl #[.int .i64 Y] (by rfl) rfl rfl (by simp only [List.map_toArray, List.map_cons, List.map_nil]; rfl) ?_
          with_reducible refine (leb_is _ (Below.refl wr2.heap.size wr2)).mono ?_
          rintro e wr3 ⟨rfl, hb⟩
          refine ⟨_, rfl, ?_⟩
          have HR3 := Aside0.mk (below_step HR2.out hb)
          have G1b := Aside0.mk (blk_below G1.out hb)
          clear G1
          have G1 := G1b
          clear G1b
          clear hb HR2
          refine hK.out _ _ trivial (fun hHeld => ?_)
          clear hK K
          refine norm_ (a' := ?_) ?_ ?_
          rotate_left
          · show Act.put _ (some 37) _ = _
            simp only [Act.put, List.setIfInBounds_toArray, List.set_cons_zero, List.set_cons_succ, i64_w, i32_w]
            rfl
          refine one_ (i := 5) (N := some 34) #[true, true, true, true, true, true, false, true, true, false, false, false] rfl rfl (by kernel_rfl) (by decide) (fun K hK => ?_)
          refine value_ (w1 := wr3) (v := .string (strOfNums [k])) (by rfl) rfl ?_ ?_
          · exact conv1 k G1.out (by rfl)
          refine hK.out _ _ trivial (fun hHeld => ?_)
          clear hK K
          refine norm_ (a' := ?_) ?_ ?_
          rotate_left
          · show Act.put _ (some 34) _ = _
            simp only [Act.put, List.setIfInBounds_toArray, List.set_cons_zero, List.set_cons_succ, i64_w, i32_w]
            rfl
          refine pure_ (i := 6) (N := some 35) (v := ?_) (a' := ?_) #[true, true, true, true, true, true, true, true, true, false, false, false] rfl rfl (by kernel_rfl) (fun _ _ _ h => h) (Or.inl ⟨by rfl, ?_⟩) ?_ ?_
          rotate_left
          · intro w'
            go_simp
            with_reducible rfl
          rotate_left
          · simp only [Act.put, List.setIfInBounds_toArray, List.set_cons_zero, List.set_cons_succ, i64_w, i32_w]
            rfl
          exact norm_ (by simp only [putAll, Act.put, List.setIfInBounds_toArray, List.set_cons_zero, List.set_cons_succ]) (hCont (.slice (some ⟨g, 0, none⟩) 1 1) _ HR3.out)
      · skip
        refine goes_ Tryd.func17 (by kernel_rfl) rfl #[.int .i64 Y] (by rfl) rfl rfl (by simp only [List.map_toArray, List.map_cons, List.map_nil]; rfl) ?_
        with_reducible refine (leb_is _ (Below.refl wr1.heap.size wr1)).mono ?_
        rintro e wr2 ⟨rfl, hb⟩
        refine ⟨_, rfl, ?_⟩
        have HR2 := Aside0.mk (below_step HR1.out hb)
        clear hb HR1
        refine hK.out _ _ trivial (fun hHeld => ?_)
        clear hK K
        refine norm_ (a' := ?_) ?_ ?_
        rotate_left
        · show Act.put _ (some 37) _ = _
          simp only [Act.put, List.setIfInBounds_toArray, List.set_cons_zero, List.set_cons_succ, i64_w, i32_w]
          rfl
        refine one_ (i := 4) (N := some 33) #[true, true, true, true, true, false, false, true, true, false, false, false] rfl rfl (by kernel_rfl) (by decide) (fun K hK => ?_)
        refine lit_step ?hw (N := 33) ?hd (cs := #[.int .u8 k]) (t := 5) (n := 1) ?hr ?_
        case hw => rfl
        case hd => rfl
        case hr => first | (go_simp; done) | (go_simp; rfl)
        intro g hg wr3 hA hb
        have G1 := Aside0.mk hA
        have HR3 := Aside0.mk (below_step HR2.out hb)
        clear hA hb hg HR2
        refine hK.out _ _ trivial (fun hHeld => ?_)
        clear hK K
        refine norm_ (a' := ?_) ?_ ?_
        rotate_left
        · show Act.put _ (some 33) _ = _
          simp only [Act.put, List.setIfInBounds_toArray, List.set_cons_zero, List.set_cons_succ, i64_w, i32_w]
          rfl
        refine one_ (i := 5) (N := some 34) #[true, true, true, true, true, true, false, true, true, false, false, false] rfl rfl (by kernel_rfl) (by decide) (fun K hK => ?_)
        refine value_ (w1 := wr3) (v := .string (strOfNums [k])) (by rfl) rfl ?_ ?_
        · exact conv1 k G1.out (by rfl)
        refine hK.out _ _ trivial (fun hHeld => ?_)
        clear hK K
        refine norm_ (a' := ?_) ?_ ?_
        rotate_left
        · show Act.put _ (some 34) _ = _
          simp only [Act.put, List.setIfInBounds_toArray, List.set_cons_zero, List.set_cons_succ, i64_w, i32_w]
          rfl
        refine pure_ (i := 6) (N := some 35) (v := ?_) (a' := ?_) #[true, true, true, true, true, true, true, true, true, false, false, false] rfl rfl (by kernel_rfl) (fun _ _ _ h => h) (Or.inl ⟨by rfl, ?_⟩) ?_ ?_
        rotate_left
        · intro w'
          go_simp
          with_reducible rfl
        rotate_left
        · simp only [Act.put, List.setIfInBounds_toArray, List.set_cons_zero, List.set_cons_succ, i64_w, i32_w]
          rfl
        exact norm_ (by simp only [putAll, Act.put, List.setIfInBounds_toArray, List.set_cons_zero, List.set_cons_succ]) (hCont (.slice (some ⟨g, 0, none⟩) 1 1) _ HR3.out)
    · skip
      refine lit_step ?hw (N := 33) ?hd (cs := #[.int .u8 k]) (t := 5) (n := 1) ?hr ?_
      case hw => rfl
      case hd => rfl
      case hr => first | (go_simp; done) | (go_simp; rfl)
      intro g hg wr1 hA hb
      have G1 := Aside0.mk hA
      have HR1 := Aside0.mk (below_step HR0.out hb)
      clear hA hb hg HR0
      refine hK.out _ _ trivial (fun hHeld => ?_)
      clear hK K
      refine norm_ (a' := ?_) ?_ ?_
      rotate_left
      · show Act.put _ (some 33) _ = _
        simp only [Act.put, List.setIfInBounds_toArray, List.set_cons_zero, List.set_cons_succ, i64_w, i32_w]
        rfl
      refine two_ (i := 1) (j := 5) (Ni := some 30) (Nj := some 34) #[true, true, false, true, true, false, false, true, false, false, false, false] #[true, false, false, true, true, true, false, true, false, false, false, false] rfl rfl rfl rfl (by kernel_rfl) (by decide) (by decide) (fun K hK => ?_) (fun K hK => ?_)
      · skip
        refine goes_ Tryd.func17 (by kernel_rfl) rfl #[.int .i64 X] (by rfl) rfl rfl (by simp only [List.map_toArray, List.map_cons, List.map_nil]; rfl) ?_
        with_reducible refine (leb_is _ (Below.refl wr1.heap.size wr1)).mono ?_
        rintro e wr2 ⟨rfl, hb⟩
        refine ⟨_, rfl, ?_⟩
        have HR2 := Aside0.mk (below_step HR1.out hb)
        have G1b := Aside0.mk (blk_below G1.out hb)
        clear G1
        have G1 := G1b
        clear G1b
        clear hb HR1
        refine hK.out _ _ trivial (fun hHeld => ?_)
        clear hK K
        refine norm_ (a' := ?_) ?_ ?_
        rotate_left
        · show Act.put _ (some 30) _ = _
          simp only [Act.put, List.setIfInBounds_toArray, List.set_cons_zero, List.set_cons_succ, i64_w, i32_w]
          rfl
        refine pure_ (i := 2) (N := some 31) (v := ?_) (a' := ?_) #[true, true, true, true, true, false, false, true, false, false, false, false] rfl rfl (by kernel_rfl) (fun _ _ _ h => h) (Or.inl ⟨by rfl, ?_⟩) ?_ ?_
        rotate_left
        · intro w'
          go_simp
          with_reducible rfl
        rotate_left
        · simp only [Act.put, List.setIfInBounds_toArray, List.set_cons_zero, List.set_cons_succ, i64_w, i32_w]
          rfl
        refine two_ (i := 5) (j := 8) (Ni := some 34) (Nj := some 37) #[true, true, true, true, true, true, false, true, false, false, false, false] #[true, true, true, true, true, false, false, true, true, false, false, false] rfl rfl rfl rfl (by kernel_rfl) (by decide) (by decide) (fun K hK => ?_) (fun K hK => ?_)
        · skip
          refine value_ (w1 := wr2) (v := .string (strOfNums [k])) (by rfl) rfl ?_ ?_
          · exact conv1 k G1.out (by rfl)
          refine hK.out _ _ trivial (fun hHeld => ?_)
          clear hK K
          refine norm_ (a' := ?_) ?_ ?_
          rotate_left
          · show Act.put _ (some 34) _ = _
            simp only [Act.put, List.setIfInBounds_toArray, List.set_cons_zero, List.set_cons_succ, i64_w, i32_w]
            rfl
          refine pure_ (i := 6) (N := some 35) (v := ?_) (a' := ?_) #[true, true, true, true, true, true, true, true, false, false, false, false] rfl rfl (by kernel_rfl) (fun _ _ _ h => h) (Or.inl ⟨by rfl, ?_⟩) ?_ ?_
          rotate_left
          · intro w'
            go_simp
            with_reducible rfl
          rotate_left
          · simp only [Act.put, List.setIfInBounds_toArray, List.set_cons_zero, List.set_cons_succ, i64_w, i32_w]
            rfl
          refine one_ (i := 8) (N := some 37) #[true, true, true, true, true, true, true, true, true, false, false, false] rfl rfl (by kernel_rfl) (by decide) (fun K hK => ?_)
          refine goes_ Tryd.func17 (by kernel_rfl) rfl #[.int .i64 Y] (by rfl) rfl rfl (by simp only [List.map_toArray, List.map_cons, List.map_nil]; rfl) ?_
          with_reducible refine (leb_is _ (Below.refl wr2.heap.size wr2)).mono ?_
          rintro e wr3 ⟨rfl, hb⟩
          refine ⟨_, rfl, ?_⟩
          have HR3 := Aside0.mk (below_step HR2.out hb)
          have G1b := Aside0.mk (blk_below G1.out hb)
          clear G1
          have G1 := G1b
          clear G1b
          clear hb HR2
          refine hK.out _ _ trivial (fun hHeld => ?_)
          clear hK K
          refine norm_ (a' := ?_) ?_ ?_
          rotate_left
          · show Act.put _ (some 37) _ = _
            simp only [Act.put, List.setIfInBounds_toArray, List.set_cons_zero, List.set_cons_succ, i64_w, i32_w]
            rfl
          exact norm_ (by simp only [putAll, Act.put, List.setIfInBounds_toArray, List.set_cons_zero, List.set_cons_succ]) (hCont (.slice (some ⟨g, 0, none⟩) 1 1) _ HR3.out)
        · skip
          refine goes_ Tryd.func17 (by kernel_rfl) rfl #[.int .i64 Y] (by rfl) rfl rfl (by simp only [List.map_toArray, List.map_cons, List.map_nil]; rfl) ?_
          with_reducible refine (leb_is _ (Below.refl wr2.heap.size wr2)).mono ?_
          rintro e wr3 ⟨rfl, hb⟩
          refine ⟨_, rfl, ?_⟩
          have HR3 := Aside0.mk (below_step HR2.out hb)
          have G1b := Aside0.mk (blk_below G1.out hb)
          clear G1
          have G1 := G1b
          clear G1b
          clear hb HR2
          refine hK.out _ _ trivial (fun hHeld => ?_)
          clear hK K
          refine norm_ (a' := ?_) ?_ ?_
          rotate_left
          · show Act.put _ (some 37) _ = _
            simp only [Act.put, List.setIfInBounds_toArray, List.set_cons_zero, List.set_cons_succ, i64_w, i32_w]
            rfl
          refine one_ (i := 5) (N := some 34) #[true, true, true, true, true, true, false, true, true, false, false, false] rfl rfl (by kernel_rfl) (by decide) (fun K hK => ?_)
          refine value_ (w1 := wr3) (v := .string (strOfNums [k])) (by rfl) rfl ?_ ?_
          · exact conv1 k G1.out (by rfl)
          refine hK.out _ _ trivial (fun hHeld => ?_)
          clear hK K
          refine norm_ (a' := ?_) ?_ ?_
          rotate_left
          · show Act.put _ (some 34) _ = _
            simp only [Act.put, List.setIfInBounds_toArray, List.set_cons_zero, List.set_cons_succ, i64_w, i32_w]
            rfl
          refine pure_ (i := 6) (N := some 35) (v := ?_) (a' := ?_) #[true, true, true, true, true, true, true, true, true, false, false, false] rfl rfl (by kernel_rfl) (fun _ _ _ h => h) (Or.inl ⟨by rfl, ?_⟩) ?_ ?_
          rotate_left
          · intro w'
            go_simp
            with_reducible rfl
          rotate_left
          · simp only [Act.put, List.setIfInBounds_toArray, List.set_cons_zero, List.set_cons_succ, i64_w, i32_w]
            rfl
          exact norm_ (by simp only [putAll, Act.put, List.setIfInBounds_toArray, List.set_cons_zero, List.set_cons_succ]) (hCont (.slice (some ⟨g, 0, none⟩) 1 1) _ HR3.out)
      · skip
        refine value_ (w1 := wr1) (v := .string (strOfNums [k])) (by rfl) rfl ?_ ?_
        · exact conv1 k G1.out (by rfl)
        refine hK.out _ _ trivial (fun hHeld => ?_)
        clear hK K
        refine norm_ (a' := ?_) ?_ ?_
        rotate_left
        · show Act.put _ (some 34) _ = _
          simp only [Act.put, List.setIfInBounds_toArray, List.set_cons_zero, List.set_cons_succ, i64_w, i32_w]
          rfl
        refine one_ (i := 1) (N := some 30) #[true, true, false, true, true, true, false, true, false, false, false, false] rfl rfl (by kernel_rfl) (by decide) (fun K hK => ?_)
        refine goes_ Tryd.func17 (by kernel_rfl) rfl #[.int .i64 X] (by rfl) rfl rfl (by simp only [List.map_toArray, List.map_cons, List.map_nil]; rfl) ?_
        with_reducible refine (leb_is _ (Below.refl wr1.heap.size wr1)).mono ?_
        rintro e wr2 ⟨rfl, hb⟩
        refine ⟨_, rfl, ?_⟩
        have HR2 := Aside0.mk (below_step HR1.out hb)
        have G1b := Aside0.mk (blk_below G1.out hb)
        clear G1
        have G1 := G1b
        clear G1b
        clear hb HR1
        refine hK.out _ _ trivial (fun hHeld => ?_)
        clear hK K
        refine norm_ (a' := ?_) ?_ ?_
        rotate_left
        · show Act.put _ (some 30) _ = _
          simp only [Act.put, List.setIfInBounds_toArray, List.set_cons_zero, List.set_cons_succ, i64_w, i32_w]
          rfl
        refine pure_ (i := 2) (N := some 31) (v := ?_) (a' := ?_) #[true, true, true, true, true, true, false, true, false, false, false, false] rfl rfl (by kernel_rfl) (fun _ _ _ h => h) (Or.inl ⟨by rfl, ?_⟩) ?_ ?_
        rotate_left
        · intro w'
          go_simp
          with_reducible rfl
        rotate_left
        · simp only [Act.put, List.setIfInBounds_toArray, List.set_cons_zero, List.set_cons_succ, i64_w, i32_w]
          rfl
        refine pure_ (i := 6) (N := some 35) (v := ?_) (a' := ?_) #[true, true, true, true, true, true, true, true, false, false, false, false] rfl rfl (by kernel_rfl) (fun _ _ _ h => h) (Or.inl ⟨by rfl, ?_⟩) ?_ ?_
        rotate_left
        · intro w'
          go_simp
          with_reducible rfl
        rotate_left
        · simp only [Act.put, List.setIfInBounds_toArray, List.set_cons_zero, List.set_cons_succ, i64_w, i32_w]
          rfl
        refine one_ (i := 8) (N := some 37) #[true, true, true, true, true, true, true, true, true, false, false, false] rfl rfl (by kernel_rfl) (by decide) (fun K hK => ?_)
        refine goes_ Tryd.func17 (by kernel_rfl) rfl #[.int .i64 Y] (by rfl) rfl rfl (by simp only [List.map_toArray, List.map_cons, List.map_nil]; rfl) ?_
        with_reducible refine (leb_is _ (Below.refl wr2.heap.size wr2)).mono ?_
        rintro e wr3 ⟨rfl, hb⟩
        refine ⟨_, rfl, ?_⟩
        have HR3 := Aside0.mk (below_step HR2.out hb)
        have G1b := Aside0.mk (blk_below G1.out hb)
        clear G1
        have G1 := G1b
        clear G1b
        clear hb HR2
        refine hK.out _ _ trivial (fun hHeld => ?_)
        clear hK K
        refine norm_ (a' := ?_) ?_ ?_
        rotate_left
        · show Act.put _ (some 37) _ = _
          simp only [Act.put, List.setIfInBounds_toArray, List.set_cons_zero, List.set_cons_succ, i64_w, i32_w]
          rfl
        exact norm_ (by simp only [putAll, Act.put, List.setIfInBounds_toArray, List.set_cons_zero, List.set_cons_succ]) (hCont (.slice (some ⟨g, 0, none⟩) 1 1) _ HR3.out)
  rintro sv w5 hb5
  have BW_5 := Aside0.mk hb5
  clear hb5
  have hHeld : True := trivial
  refine norm_ (a' := ?_) ?_ ?_
  rotate_left
  · simp only [putAll, Act.put, List.setIfInBounds_toArray, List.set_cons_zero, List.set_cons_succ]
    rfl
  refine pure_ (i := 9) (N := some 38) (v := ?_) (a' := ?_) #[true, true, true, true, true, true, true, true, true, true, false, false] rfl rfl (by kernel_rfl) (fun _ _ _ h => h) (Or.inl ⟨by rfl, ?_⟩) ?_ ?_
  rotate_left
  · intro w'
    go_simp
    with_reducible rfl
  rotate_left
  · simp only [Act.put, List.setIfInBounds_toArray, List.set_cons_zero, List.set_cons_succ, i64_w, i32_w]
    rfl
  refine pure_ (i := 10) (N := some 39) (v := ?_) (a' := ?_) #[true, true, true, true, true, true, true, true, true, true, true, false] rfl rfl (by kernel_rfl) (fun _ _ _ h => h) (Or.inl ⟨by rfl, ?_⟩) ?_ ?_
  rotate_left
  · intro w'
    go_simp
    with_reducible rfl
  rotate_left
  · simp only [Act.put, List.setIfInBounds_toArray, List.set_cons_zero, List.set_cons_succ, i64_w, i32_w]
    rfl
  refine pure_ (i := 11) (N := some 10) (v := ?_) (a' := ?_) #[true, true, true, true, true, true, true, true, true, true, true, true] rfl rfl (by kernel_rfl) (fun _ _ _ h => h) (Or.inl ⟨by rfl, ?_⟩) ?_ ?_
  rotate_left
  · intro w'
    go_simp
    with_reducible rfl
  rotate_left
  · simp only [Act.put, List.setIfInBounds_toArray, List.set_cons_zero, List.set_cons_succ, i64_w, i32_w]
    rfl
  refine done_ (by kernel_rfl) ?_

  clear HB1
  go_wp2_with (first
    | (go_at_call 17; (with_reducible refine (leb_is _ (Below.refl w5.heap.size w5)).mono ?_); rintro e w6 ⟨rfl, hb⟩; have BW_6 := Aside0.mk (BW_5.out.trans (hb.mono BW_5.out.size)); clear BW_5; clear hb)
    | (go_at_call 20; (with_reducible refine (section_is 3 _ S3.out (Below.refl w6.heap.size w6)).mono ?_); rintro e w7 ⟨rfl, hb⟩; have BW_7 := Aside0.mk (BW_6.out.trans (hb.mono BW_6.out.size)); clear BW_6; clear hb)
    | (go_at_call 20; (with_reducible refine (section_is 10 _ SP.out (Below.refl w7.heap.size w7)).mono ?_); rintro e w8 ⟨rfl, hb⟩; have BW_8 := Aside0.mk (BW_7.out.trans (hb.mono BW_7.out.size)); clear BW_7; clear hb)
    | (go_at_call 13; (with_reducible refine (mod_er_c EA.out (tabs_below HT.out BW_8.out) (Below.refl w8.heap.size w8)).mono ?_); rintro e w9 ⟨rfl, hb⟩; have BW_9 := Aside0.mk (BW_8.out.trans (hb.mono BW_8.out.size)); clear BW_8; clear hb)
    | ((with_reducible refine gate_dst (N := 12) rfl ?_); refine box_event ?hg (N := 12) ?hd (cs := #[.slice none 0 0, .slice none 0 0, .slice none 0 0, .slice none 0 0, .slice none 0 0, .slice none 0 0, .slice none 0 0, .int .i64 0, .slice none 0 0, .slice none 0 0, .slice none 0 0]) (t := 33) ?hr ?_; (case hd => rfl); (case hg => rfl); (case hr => first | (go_simp; done) | (go_simp; rfl)); intro q1 hgq1 w10 hA hb; have Jq1 := Aside0.mk hA; have Mq1 := Aside0.mk (show W.heap.size ≤ q1 by have := BW_9.out.size; omega); have BW_10 := Aside0.mk (BW_9.out.trans (hb.mono BW_9.out.size)); clear BW_9; clear hA hb hgq1)
    | ((with_reducible refine gate_store (p := 12) rfl ?_); refine storeRow_event (g := q1) rfl rfl rfl (cs := #[.slice none 0 0, .slice none 0 0, .slice none 0 0, .slice none 0 0, .slice none 0 0, .slice none 0 0, .slice none 0 0, .int .i64 0, .slice none 0 0, .slice none 0 0, .slice none 0 0]) rfl rfl Jq1.out (by kernel_rfl) rfl (by simp [Value.oneCell']) ?_; intro w11 hA hb ho hs; have BW_11 := Aside0.mk (hb _ _ Mq1.out BW_10.out); clear BW_10; clear Jq1 Mq1; clear hA hb ho hs)
    | (go_at_call 20; (with_reducible refine (section_is 3 _ S3.out (Below.refl w11.heap.size w11)).mono ?_); rintro e w12 ⟨rfl, hb⟩; have BW_12 := Aside0.mk (BW_11.out.trans (hb.mono BW_11.out.size)); clear BW_11; clear hb)
    | (go_at_call 17; (with_reducible refine (leb_is _ (Below.refl w12.heap.size w12)).mono ?_); rintro e w13 ⟨rfl, hb⟩; have BW_13 := Aside0.mk (BW_12.out.trans (hb.mono BW_12.out.size)); clear BW_12; clear hb)
    | (go_at_call 20; (with_reducible refine (section_is 10 _ SQ.out (Below.refl w13.heap.size w13)).mono ?_); rintro e w14 ⟨rfl, hb⟩; have BW_14 := Aside0.mk (BW_13.out.trans (hb.mono BW_13.out.size)); clear BW_13; clear hb)
    | (go_at_call 13; (with_reducible refine (mod_er_c EB.out (tabs_below HT.out BW_14.out) (Below.refl w14.heap.size w14)).mono ?_); rintro e w15 ⟨rfl, hb⟩; have BW_15 := Aside0.mk (BW_14.out.trans (hb.mono BW_14.out.size)); clear BW_14; clear hb)
    | ((with_reducible refine gate_dst (N := 14) rfl ?_); refine box_event ?hg (N := 14) ?hd (cs := #[.slice none 0 0, .slice none 0 0, .slice none 0 0, .slice none 0 0, .slice none 0 0, .slice none 0 0, .slice none 0 0, .int .i64 0, .slice none 0 0, .slice none 0 0, .slice none 0 0]) (t := 33) ?hr ?_; (case hd => rfl); (case hg => rfl); (case hr => first | (go_simp; done) | (go_simp; rfl)); intro q2 hgq2 w16 hA hb; have Jq2 := Aside0.mk hA; have Mq2 := Aside0.mk (show W.heap.size ≤ q2 by have := BW_15.out.size; omega); have BW_16 := Aside0.mk (BW_15.out.trans (hb.mono BW_15.out.size)); clear BW_15; clear hA hb hgq2)
    | ((with_reducible refine gate_store (p := 14) rfl ?_); refine storeRow_event (g := q2) rfl rfl rfl (cs := #[.slice none 0 0, .slice none 0 0, .slice none 0 0, .slice none 0 0, .slice none 0 0, .slice none 0 0, .slice none 0 0, .int .i64 0, .slice none 0 0, .slice none 0 0, .slice none 0 0]) rfl rfl Jq2.out (by kernel_rfl) rfl (by simp [Value.oneCell']) ?_; intro w17 hA hb ho hs; have BW_17 := Aside0.mk (hb _ _ Mq2.out BW_16.out); clear BW_16; clear Jq2 Mq2; clear hA hb ho hs)
    | (go_at_call 14; (with_reducible refine (num_is _ (Below.refl w17.heap.size w17)).mono ?_); rintro e w18 ⟨rfl, hb⟩; have BW_18 := Aside0.mk (BW_17.out.trans (hb.mono BW_17.out.size)); clear BW_17; clear hb)
    | (go_at_call 14; (with_reducible refine (num_is _ (Below.refl w18.heap.size w18)).mono ?_); rintro e w19 ⟨rfl, hb⟩; have BW_19 := Aside0.mk (BW_18.out.trans (hb.mono BW_18.out.size)); clear BW_18; clear hb))
  go_ret
  exact ⟨rfl, BW_19.out⟩
end Go.Proofs.YtkdoijfjceeblaaDoor.EDec
