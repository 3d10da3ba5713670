/-
  What the claim leans on, in the order of its making: words about values and worlds, the printed functions, the decoder in plain words and its walk. Cut to what is used by wip/tools/prune15.py. (EDecLocals)
-/
import Derived.Test.YtkdoijfjceeblaaDoorQEDecLocals1
namespace Go.Proofs.YtkdoijfjceeblaaDoor.EDec
open Go Go.RowKit Go.Proofs.YtkdoijfjceeblaaDoor.F Go.Proofs.YtkdoijfjceeblaaDoorW.Hand Go.Proofs.YtkdoijfjceeblaaDoorW.PrintWords Go.Proofs.YtkdoijfjceeblaaDoorW.PrintLast Go.Proofs.YtkdoijfjceeblaaDoorW.PrintMore
open Go.Proofs.YtkdoijfjceeblaaDoor.LebGets (G)
open Go.Proofs.YtkdoijfjceeblaaDoor.ENames (Tabs tabs_below nget nmay)
open Go.Proofs.YtkdoijfjceeblaaDoor.EInstr (GRes pGet get_b ret_int wrap_bt)
set_option linter.unusedVariables false
set_option linter.unusedSimpArgs false
theorem rd_left {X Y : Nat} {k : Int} {i : Nat} (h : i < X) : rd (List.replicate X k ++ List.replicate Y 127) (i : Int) = k := by
  unfold rd
  rw [Int.toNat_natCast, List.getD_eq_getElem?_getD, List.getElem?_append_left (by simpa using h)]
  simp [h]
theorem rd_right {X Y : Nat} {k : Int} {i : Nat} (h : X ≤ i) (h2 : i < X + Y) : rd (List.replicate X k ++ List.replicate Y 127) (i : Int) = 127 := by
  unfold rd
  rw [Int.toNat_natCast, List.getD_eq_getElem?_getD, List.getElem?_append_right (by simpa using h)]
  have : i - X < Y := by omega
  simp [this]
set_option maxHeartbeats 8000000 in
set_option maxRecDepth 100000 in
theorem locals_fine (a0 a1 a2 : Int) (X Y N : Nat) (k : Int) (hx : Go.bits .and .i64 a0 255 = (X : Int)) (hy : Go.bits .and .i64 a1 255 = (Y : Int)) (hk : wrap64 (127 - wrap64 ((IntKind.u64.wrap a2).tmod 4)) % 256 = k) (rk : 124 ≤ k ∧ k ≤ 127) (hX : X < 256) (hY : Y < 256) (hN : X + Y = N) (h256 : N ≤ 256) (W : World) (hT : Tabs W) : Calls Tryd.prog 11 #[.int .i64 a0, .int .i64 a1, .int .i64 a2] W fun e w' => e = .returned (.bool true) ∧ Below W.heap.size W w' := by
  have HT := Aside0.mk hT
  have HB0 := Aside0.mk (Below.refl W.heap.size W)
  have HKK := Aside0.mk hk
  have HXX := Aside0.mk hx
  have HYY := Aside0.mk hy
  clear hk hx hy hT
  have zb := locB_size X k Y
  have zx := lebS_size X
  have zy := lebS_size Y
  have s1 : (strOfNums [k]).size = 1 := str_size _
  have hs : (X : Int) + (Y : Int) = (N : Int) := by omega
  obtain ⟨B, hB⟩ : ∃ B, ((⟨#[2]⟩ : ByteArray) ++ lebS (X : Int) ++ strOfNums [k] ++ lebS (Y : Int) ++ ⟨#[127, 11]⟩) = B := ⟨_, rfl⟩
  have hBl : locB X k Y = B := hB
  have lA := loc_mod (z := (B.size : Int)) (x := X) (y := Y) (k := k) (by rw [← hBl]; omega) (by omega) (by omega) rk
  have lB := loc_mod (z := (B.size : Int) + 1) (x := X) (y := Y) (k := k) (by rw [← hBl]; omega) (by omega) (by omega) rk
  rw [hBl] at lA lB zb
  simp only [locP, hBl, Int.toNat_natCast] at lA lB
  rw [← ByteArray.append_assoc (a := ⟨#[1]⟩) (b := lebS ((B.size : Int) + 1))] at lB
  have zz := lebS_size (B.size : Int)
  have zz1 := lebS_size ((B.size : Int) + 1)
  have t1 : (⟨#[1]⟩ : ByteArray).size = 1 := rfl
  have t3 : (⟨#[1, 0]⟩ : ByteArray).size = 2 := rfl
  have p3 := secS_size 3 ⟨#[1, 0]⟩
  obtain ⟨P, hP⟩ : ∃ P, (⟨#[1]⟩ : ByteArray) ++ (lebS (B.size : Int) ++ B) = P := ⟨_, rfl⟩
  obtain ⟨Q, hQ⟩ : ∃ Q, (⟨#[1]⟩ : ByteArray) ++ lebS ((B.size : Int) + 1) ++ B = Q := ⟨_, rfl⟩
  have zP : P.size ≤ 100 := by rw [← hP]; simp only [ByteArray.size_append]; omega
  have zQ : Q.size ≤ 100 := by rw [← hQ]; simp only [ByteArray.size_append]; omega
  have pP := secS_size 10 P
  have pQ := secS_size 10 Q
  rw [hP] at lA
  rw [hQ] at lB
  have S3 := Aside0.mk (show (⟨#[1, 0]⟩ : ByteArray).size ≤ 140737488355328 by omega)
  have SP := Aside0.mk (show P.size ≤ 140737488355328 by omega)
  have SQ := Aside0.mk (show Q.size ≤ 140737488355328 by omega)
  have n1 := sum_ok (a := 1) (b := (lebS (X : Int)).size) (by omega)
  have n2 : ¬ 9223372036854775807 < 1 + (lebS (X : Int)).size + (strOfNums [k]).size := by omega
  have n3 : ¬ 9223372036854775807 < 1 + (lebS (X : Int)).size + (strOfNums [k]).size + (lebS (Y : Int)).size := by omega
  have n4 : ¬ 9223372036854775807 < 1 + (lebS (X : Int)).size + (strOfNums [k]).size + (lebS (Y : Int)).size + 2 := by omega
  have n5 := sum_ok (a := (lebS (B.size : Int)).size) (b := B.size) (by omega)
  have n6 : ¬ 9223372036854775807 < 1 + ((lebS (B.size : Int)).size + B.size) := by omega
  have n6' : ¬ 9223372036854775807 < 1 + (lebS (B.size : Int) ++ B).size := by rw [ByteArray.size_append]; omega
  have n7 : ¬ 9223372036854775807 < 8 + (secS 3 ⟨#[1, 0]⟩).size := by omega
  have n8 : ¬ 9223372036854775807 < 8 + (secS 3 ⟨#[1, 0]⟩).size + (secS 10 P).size := by omega
  have n9 : ¬ 9223372036854775807 < 8 + (secS 3 ⟨#[1, 0]⟩).size + (secS 10 Q).size := by omega
  have m1 := sum_ok (a := 1) (b := (lebS ((B.size : Int) + 1)).size) (by omega)
  have m2 : ¬ 9223372036854775807 < 1 + (lebS ((B.size : Int) + 1)).size + B.size := by omega
  have b1 : (B.size : Int) ≤ 1000 := by omega
  have b2 : (N : Int) ≤ 600 := by omega
  have b3 : 124 ≤ k := rk.1
  have b4 : k ≤ 127 := rk.2
  have b5 : (X : Int) ≤ 255 := by omega
  have b6 : (Y : Int) ≤ 255 := by omega
  rw [if_pos (by omega)] at lA lB
  rw [if_pos trivial] at lA
  rw [if_neg (by omega)] at lB
  obtain ⟨mT, hmT⟩ : ∃ mT : Mod, mT = { m0 with funcs := [0], codes := [⟨List.replicate X k ++ List.replicate Y 127, []⟩] } := ⟨_, rfl⟩
  rw [← hmT] at lA
  have EA := Aside0.mk lA
  have EB := Aside0.mk lB
  obtain ⟨l, hl⟩ : ∃ l : S57, l = ⟨List.replicate X k ++ List.replicate Y 127, []⟩ := ⟨_, rfl⟩
  have HC := Aside0.mk (show mT.codes = [l] by rw [hmT, hl])
  have HN := Aside0.mk (show l.f0.length = N by rw [hl]; simp; omega)
  have HL := Aside0.mk (show l.f0 = List.replicate X k ++ List.replicate Y 127 by rw [hl])
  have HXY := Aside0.mk hN
  have d1 : decide ((256 : Int) < (N : Int)) = false := decide_eq_false (by omega)
  clear hmT hl
  clear zb zx zy s1 hBl zz zz1 t1 t3 p3 zP zQ pP pQ lA lB rk hX hY hN
  have hw := wrap_succ b1
  have hk := HKK.out
  have hx := HXX.out
  have hy := HYY.out
  clear HKK HXX HYY
  go_enter Tryd.func11, Tryd.ntmps11
  go_wp2_with (first
    | (go_at_call 12; (with_reducible refine (awake_c HT.out HB0.out).mono ?_); rintro e w1 ⟨rfl, hb⟩; have HB1 := Aside0.mk hb; clear hb HB0))
  obtain ⟨WD, hWD⟩ : ∃ WD, WD = w1 := ⟨_, rfl⟩
  subst hWD
  have HR0 : Aside0 (Below W.heap.size W WD.drew) := ⟨below_drew HB1.out⟩
  refine start_ (n := 12) (S := fun w' => True) (ds := []) #[false, false, false, false, false, false, false, false, false, false, false, false] (by kernel_rfl) rfl rfl trivial (fun hHeld => ?_)
  refine pure_ (i := 0) (N := some 29) (v := ?_) (a' := ?_) #[true, false, false, false, false, false, false, false, false, false, false, false] rfl rfl (by kernel_rfl) (fun _ _ _ h => h) (Or.inl ⟨by rfl, ?_⟩) ?_ ?_
  rotate_left
  · intro w'
    go_simp
    with_reducible rfl
  rotate_left
  · simp only [Act.put, List.setIfInBounds_toArray, List.set_cons_zero, List.set_cons_succ, i64_w, i32_w]
    rfl
  refine pure_ (i := 3) (N := some 32) (v := ?_) (a' := ?_) #[true, false, false, true, false, false, false, false, false, false, false, false] rfl rfl (by kernel_rfl) (fun _ _ _ h => h) (Or.inl ⟨by rfl, ?_⟩) ?_ ?_
  rotate_left
  · intro w'
    go_simp
    with_reducible rfl
  rotate_left
  · simp only [Act.put, List.setIfInBounds_toArray, List.set_cons_zero, List.set_cons_succ, i64_w, i32_w]
    rfl
  refine pure_ (i := 7) (N := some 36) (v := ?_) (a' := ?_) #[true, false, false, true, false, false, false, true, false, false, false, false] rfl rfl (by kernel_rfl) (fun _ _ _ h => h) (Or.inl ⟨by rfl, ?_⟩) ?_ ?_
  rotate_left
  · intro w'
    go_simp
    with_reducible rfl
  rotate_left
  · simp only [Act.put, List.setIfInBounds_toArray, List.set_cons_zero, List.set_cons_succ, i64_w, i32_w]
    rfl
  refine join_ (σ := Value) 3 #[true, true, true, true, true, true, true, true, true, false, false, false] (fun s => [(30, .string (lebS (X : Int))), (33, s), (34, .string (strOfNums [k])), (37, .string (lebS (Y : Int))), (31, .string ((⟨#[2]⟩ : ByteArray) ++ lebS (X : Int))), (35, .string ((⟨#[2]⟩ : ByteArray) ++ lebS (X : Int) ++ strOfNums [k]))]) (fun s W1 => Below W.heap.size W W1) ?_ ?_
  rotate_left
  · intro hCont
    refine two_ (i := 1) (j := 4) (Ni := some 30) (Nj := some 33) #[true, true, false, true, false, false, false, true, false, false, false, false] #[true, false, false, true, true, false, false, true, false, false, false, false] rfl rfl rfl rfl (by kernel_rfl) (by decide) (by decide) (fun K hK => ?_) (fun K hK => ?_)
    · skip
      refine goes_ Tryd.func17 (by kernel_rfl) rfl #[.int .i64 X] (by rfl) rfl rfl (by simp only [List.map_toArray, List.map_cons, List.map_nil]; rfl) ?_
      with_reducible refine (leb_is _ (Below.refl WD.drew.heap.size WD.drew)).mono ?_
      rintro e wr1 ⟨rfl, hb⟩
      refine ⟨_, rfl, ?_⟩
      have HR1 := Aside0.mk (below_step HR0.out hb)
      clear hb HR0
      refine hK.out _ _ trivial (fun hHeld => ?_)
      clear hK K
      refine norm_ (a' := ?_) ?_ ?_
      rotate_left
      · show Act.put _ (some 30) _ = _
        simp only [Act.put, List.setIfInBounds_toArray, List.set_cons_zero, List.set_cons_succ, i64_w, i32_w]
        rfl
      refine pure_ (i := 2) (N := some 31) (v := ?_) (a' := ?_) #[true, true, true, true, false, false, false, true, false, false, false, false] rfl rfl (by kernel_rfl) (fun _ _ _ h => h) (Or.inl ⟨by rfl, ?_⟩) ?_ ?_
      rotate_left
      · intro w'
        go_simp
        with_reducible rfl
      rotate_left
      · simp only [Act.put, List.setIfInBounds_toArray, List.set_cons_zero, List.set_cons_succ, i64_w, i32_w]
        rfl
      refine two_ (i := 4) (j := 8) (Ni := some 33) (Nj := some 37) #[true, true, true, true, true, false, false, true, false, false, false, false] #[true, true, true, true, false, false, false, true, true, false, false, false] rfl rfl rfl rfl (by kernel_rfl) (by decide) (by decide) (fun K hK => ?_) (fun K hK => ?_)
      · skip
        refine lit_step ?hw (N := 33) ?hd (cs := #[.int .u8 k]) (t := 5) (n := 1) ?hr ?_
        case hw => rfl
        case hd => rfl
        case hr => first | (go_simp; done) | (go_simp; rfl)
        intro g hg wr2 hA hb
        have G1 := Aside0.mk hA
        have HR2 := Aside0.mk (below_step HR1.out hb)
        clear hA hb hg HR1
        refine hK.out _ _ trivial (fun hHeld => ?_)
        clear hK K
        refine norm_ (a' := ?_) ?_ ?_
        rotate_left
        · show Act.put _ (some 33) _ = _
          simp only [Act.put, List.setIfInBounds_toArray, List.set_cons_zero, List.set_cons_succ, i64_w, i32_w]
          rfl
        refine two_ (i := 5) (j := 8) (Ni := some 34) (Nj := some 37) #[true, true, true, true, true, true, false, true, false, false, false, false] #[true, true, true, true, true, false, false, true, true, false, false, false] rfl rfl rfl rfl (by kernel_rfl) (by decide) (by decide) (fun K hK => ?_) (fun K hK => ?_)
        · skip
          refine value_ (w1 := wr2) (v := .string (strOfNums [k])) (by rfl) rfl ?_ ?_
          · exact conv1 k G1.out (by rfl)
          refine hK.out _ _ trivial (fun hHeld => ?_)
          clear hK K
          refine norm_ (a' := ?_) ?_ ?_
          rotate_left
          · show Act.put _ (some 34) _ = _
            simp only [Act.put, List.setIfInBounds_toArray, List.set_cons_zero, List.set_cons_succ, i64_w, i32_w]
            rfl
          refine pure_ (i := 6) (N := some 35) (v := ?_) (a' := ?_) #[true, true, true, true, true, true, true, true, false, false, false, false] rfl rfl (by kernel_rfl) (fun _ _ _ h => h) (Or.inl ⟨by rfl, ?_⟩) ?_ ?_
          rotate_left
          · intro w'
            go_simp
            with_reducible rfl
          rotate_left
          · simp only [Act.put, List.setIfInBounds_toArray, List.set_cons_zero, List.set_cons_succ, i64_w, i32_w]
            rfl
          refine one_ (i := 8) (N := some 37) #[true, true, true, true, true, true, true, true, true, false, false, false] rfl rfl (by kernel_rfl) (by decide) (fun K hK => ?_)
          refine goes_ Tryd.func17 (by kernel_rfl) rfl #[.int .i64 Y] (by rfl) rfl rfl (by simp only [List.map_toArray, List.map_cons, List.map_nil]; rfl) ?_
          with_reducible refine (leb_is _ (Below.refl wr2.heap.size wr2)).mono ?_
          rintro e wr3 ⟨rfl, hb⟩
          refine ⟨_, rfl, ?_⟩
          have HR3 := Aside0.mk (below_step HR2.out hb)
          have G1b := Aside0.mk (blk_below G1.out hb)
          clear G1
          have G1 := G1b
          clear G1b
          clear hb HR2
          refine hK.out _ _ trivial (fun hHeld => ?_)
          clear hK K
          refine norm_ (a' := ?_) ?_ ?_
          rotate_left
          · show Act.put _ (some 37) _ = _
            simp only [Act.put, List.setIfInBounds_toArray, List.set_cons_zero, List.set_cons_succ, i64_w, i32_w]
            rfl
          exact norm_ (by simp only [putAll, Act.put, List.setIfInBounds_toArray, List.set_cons_zero, List.set_cons_succ]) (hCont (.slice (some ⟨g, 0, none⟩) 1 1) _ HR3.out)
        · skip
          refine goes_ Tryd.func17 (by kernel_rfl) rfl #[.int .i64 Y] (by rfl) rfl rfl (by simp only [List.map_toArray, List.map_cons, List.map_nil]; rfl) ?_
          with_reducible refine (leb_is _ (Below.refl wr2.heap.size wr2)).mono ?_
          rintro e wr3 ⟨rfl, hb⟩
          refine ⟨_, rfl, ?_⟩
          have HR3 := Aside0.mk (below_step HR2.out hb)
          have G1b := Aside0.mk (blk_below G1.out hb)
          clear G1
          have G1 := G1b
          clear G1b
          clear hb HR2
          refine hK.out _ _ trivial (fun hHeld => ?_)
          clear hK K
          refine norm_ (a' := ?_) ?_ ?_
          rotate_left
          · show Act.put _ (some 37) _ = _
            simp only [Act.put, List.setIfInBounds_toArray, List.set_cons_zero, List.set_cons_succ, i64_w, i32_w]
            rfl
          refine one_ (i := 5) (N := some 34) #[true, true, true, true, true, true, false, true, true, false, false, false] rfl rfl (by kernel_rfl) (by decide) (fun K hK => ?_)
          refine value_ (w1 := wr3) (v := .string (strOfNums [k])) (by rfl) rfl ?_ ?_
          · exact conv1 k G1.out (by rfl)
          refine hK.out _ _ trivial (fun hHeld => ?_)
          clear hK K
          refine norm_ (a' := ?_) ?_ ?_
          rotate_left
          · show Act.put _ (some 34) _ = _
            simp only [Act.put, List.setIfInBounds_toArray, List.set_cons_zero, List.set_cons_succ, i64_w, i32_w]
            rfl
          refine pure_ (i := 6) (N := some 35) (v := ?_) (a' := ?_) #[true, true, true, true, true, true, true, true, true, false, false, false] rfl rfl (by kernel_rfl) (fun _ _ _ h => h) (Or.inl ⟨by rfl, ?_⟩) ?_ ?_
          rotate_left
          · intro w'
            go_simp
            with_reducible rfl
          rotate_left
          · simp only [Act.put, List.setIfInBounds_toArray, List.set_cons_zero, List.set_cons_succ, i64_w, i32_w]
            rfl
          exact norm_ (by simp only [putAll, Act.put, List.setIfInBounds_toArray, List.set_cons_zero, List.set_cons_succ]) (hCont (.slice (some ⟨g, 0, none⟩) 1 1) _ HR3.out)
      · skip
        refine goes_ Tryd.func17 (by kernel_rfl) rfl #[.int .i64 Y] (by rfl) rfl rfl (by simp only [List.map_toArray, List.map_cons, List.map_nil]; rfl) ?_
        with_reducible refine (leb_is _ (Below.refl wr1.heap.size wr1)).mono ?_
        rintro e wr2 ⟨rfl, hb⟩
        refine ⟨_, rfl, ?_⟩
        have HR2 := Aside0.mk (below_step HR1.out hb)
        clear hb HR1
        refine hK.out _ _ trivial (fun hHeld => ?_)
        clear hK K
        refine norm_ (a' := ?_) ?_ ?_
        rotate_left
        · show Act.put _ (some 37) _ = _
          simp only [Act.put, List.setIfInBounds_toArray, List.set_cons_zero, List.set_cons_succ, i64_w, i32_w]
          rfl
        refine one_ (i := 4) (N := some 33) #[true, true, true, true, true, false, false, true, true, false, false, false] rfl rfl (by kernel_rfl) (by decide) (fun K hK => ?_)
        refine lit_step ?hw (N := 33) ?hd (cs := #[.int .u8 k]) (t := 5) (n := 1) ?hr ?_
        case hw => rfl
        case hd => rfl
        case hr => first | (go_simp; done) | (go_simp; rfl)
        intro g hg wr3 hA hb
        have G1 := Aside0.mk hA
        have HR3 := Aside0.mk (below_step HR2.out hb)
        clear hA hb hg HR2
        refine hK.out _ _ trivial (fun hHeld => ?_)
        clear hK K
        refine norm_ (a' := ?_) ?_ ?_
        rotate_left
        · show Act.put _ (some 33) _ = _
          simp only [Act.put, List.setIfInBounds_toArray, List.set_cons_zero, List.set_cons_succ, i64_w, i32_w]
          rfl
        refine one_ (i := 5) (N := some 34) #[true, true, true, true, true, true, false, true, true, false, false, false] rfl rfl (by kernel_rfl) (by decide) (fun K hK => ?_)
        refine value_ (w1 := wr3) (v := .string (strOfNums [k])) (by rfl) rfl ?_ ?_
        · exact conv1 k G1.out (by rfl)
        refine hK.out _ _ trivial (fun hHeld => ?_)
        clear hK K
        refine norm_ (a' := ?_) ?_ ?_
        rotate_left
        · show Act.put _ (some 34) _ = _
          simp only [Act.put, List.setIfInBounds_toArray, List.set_cons_zero, List.set_cons_succ, i64_w, i32_w]
          rfl
        refine pure_ (i := 6) (N := some 35) (v := ?_) (a' := ?_) #[true, true, true, true, true, true, true, true, true, false, false, false] rfl rfl (by kernel_rfl) (fun _ _ _ h => h) (Or.inl ⟨by rfl, ?_⟩) ?_ ?_
        rotate_left
        · intro w'
          go_simp
          with_reducible rfl
        rotate_left
        · simp only [Act.put, List.setIfInBounds_toArray, List.set_cons_zero, List.set_cons_succ, i64_w, i32_w]
          rfl
        exact norm_ (by simp only [putAll, Act.put, List.setIfInBounds_toArray, List.set_cons_zero, List.set_cons_succ]) (hCont (.slice (some ⟨g, 0, none⟩) 1 1) _ HR3.out)
    · skip
      refine lit_step ?hw (N := 33) ?hd (cs := #[.int .u8 k]) (t := 5) (n := 1) ?hr ?_
      case hw => rfl
      case hd => rfl
      case hr => first | (go_simp; done) | (go_simp; rfl)
      intro g hg wr1 hA hb
      have G1 := Aside0.mk hA
      have HR1 := Aside0.mk (below_step HR0.out hb)
      clear hA hb hg HR0
      refine hK.out _ _ trivial (fun hHeld => ?_)
      clear hK K
      refine norm_ (a' := ?_) ?_ ?_
      rotate_left
      · show Act.put _ (some 33) _ = _
        simp only [Act.put, List.setIfInBounds_toArray, List.set_cons_zero, List.set_cons_succ, i64_w, i32_w]
        rfl
      refine two_ (i := 1) (j := 5) (Ni := some 30) (Nj := some 34) #[true, true, false, true, true, false, false, true, false, false, false, false] #[true, false, false, true, true, true, false, true, false, false, false, false] rfl rfl rfl rfl (by kernel_rfl) (by decide) (by decide) (fun K hK => ?_) (fun K hK => ?_)
      · skip
        refine goes_ Tryd.func17 (by kernel_rfl) rfl #[.int .i64 X] (by rfl) rfl rfl (by simp only [List.map_toArray, List.map_cons, List.map_nil]; rfl) ?_
        with_reducible refine (leb_is _ (Below.refl wr1.heap.size wr1)).mono ?_
        rintro e wr2 ⟨rfl, hb⟩
        refine ⟨_, rfl, ?_⟩
        have HR2 := Aside0.mk (below_step HR1.out hb)
        have G1b := Aside0.mk (blk_below G1.out hb)
        clear G1
        have G1 := G1b
        clear G1b
        clear hb HR1
        refine hK.out _ _ trivial (fun hHeld => ?_)
        clear hK K
        refine norm_ (a' := ?_) ?_ ?_
        rotate_left
        · show Act.put _ (some 30) _ = _
          simp only [Act.put, List.setIfInBounds_toArray, List.set_cons_zero, List.set_cons_succ, i64_w, i32_w]
          rfl
        refine pure_ (i := 2) (N := some 31) (v := ?_) (a' := ?_) #[true, true, true, true, true, false, false, true, false, false, false, false] rfl rfl (by kernel_rfl) (fun _ _ _ h => h) (Or.inl ⟨by rfl, ?_⟩) ?_ ?_
        rotate_left
        · intro w'
          go_simp
          with_reducible rfl
        rotate_left
        · simp only [Act.put, List.setIfInBounds_toArray, List.set_cons_zero, List.set_cons_succ, i64_w, i32_w]
          rfl
        refine two_ (i := 5) (j := 8) (Ni := some 34) (Nj := some 37) #[true, true, true, true, true, true, false, true, false, false, false, false] #[true, true, true, true, true, false, false, true, true, false, false, false] rfl rfl rfl rfl (by kernel_rfl) (by decide) (by decide) (fun K hK => ?_) (fun K hK => ?_)
        · skip
          refine value_ (w1 := wr2) (v := .string (strOfNums [k])) (by rfl) rfl ?_ ?_
          · exact conv1 k G1.out (by rfl)
          refine hK.out _ _ trivial (fun hHeld => ?_)
          clear hK K
          refine norm_ (a' := ?_) ?_ ?_
          rotate_left
          · show Act.put _ (some 34) _ = _
            simp only [Act.put, List.setIfInBounds_toArray, List.set_cons_zero, List.set_cons_succ, i64_w, i32_w]
            rfl
          refine pure_ (i := 6) (N := some 35) (v := ?_) (a' := ?_) #[true, true, true, true, true, true, true, true, false, false, false, false] rfl rfl (by kernel_rfl) (fun _ _ _ h => h) (Or.inl ⟨by rfl, ?_⟩) ?_ ?_
          rotate_left
          · intro w'
            go_simp
            with_reducible rfl
          rotate_left
          · simp only [Act.put, List.setIfInBounds_toArray, List.set_cons_zero, List.set_cons_succ, i64_w, i32_w]
            rfl
          refine one_ (i := 8) (N := some 37) #[true, true, true, true, true, true, true, true, true, false, false, false] rfl rfl (by kernel_rfl) (by decide) (fun K hK => ?_)
          refine goes_ Tryd.func17 (by kernel_rfl) rfl #[.int .i64 Y] (by rfl) rfl rfl (by simp only [List.map_toArray, List.map_cons, List.map_nil]; rfl) ?_
          with_reducible refine (leb_is _ (Below.refl wr2.heap.size wr2)).mono ?_
          rintro e wr3 ⟨rfl, hb⟩
          refine ⟨_, rfl, ?_⟩
          have HR3 := Aside0.mk (below_step HR2.out hb)
          have G1b := Aside0.mk (blk_below G1.out hb)
          clear G1
          have G1 := G1b
          clear G1b
          clear hb HR2
          refine hK.out _ _ trivial (fun hHeld => ?_)
          clear hK K
          refine norm_ (a' := ?_) ?_ ?_
          rotate_left
          · show Act.put _ (some 37) _ = _
            simp only [Act.put, List.setIfInBounds_toArray, List.set_cons_zero, List.set_cons_succ, i64_w, i32_w]
            rfl
          exact norm_ (by simp only [putAll, Act.put, List.setIfInBounds_toArray, List.set_cons_zero, List.set_cons_succ]) (hCont (.slice (some ⟨g, 0, none⟩) 1 1) _ HR3.out)
        · skip
          refine goes_ Tryd.func17 (by kernel_rfl) rfl #[.int .i64 Y] (by rfl) rfl rfl (by simp only [List.map_toArray, List.map_cons, List.map_nil]; rfl) ?_
          with_reducible refine (leb_is _ (Below.refl wr2.heap.size wr2)).mono ?_
          rintro e wr3 ⟨rfl, hb⟩
          refine ⟨_, rfl, ?_⟩
          have HR3 := Aside0.mk (below_step HR2.out hb)
          have G1b := Aside0.mk (blk_below G1.out hb)
          clear G1
          have G1 := G1b
          clear G1b
          clear hb HR2
          refine hK.out _ _ trivial (fun hHeld => ?_)
          clear hK K
          refine norm_ (a' := ?_) ?_ ?_
          rotate_left
          · show Act.put _ (some 37) _ = _
            simp only [Act.put, List.setIfInBounds_toArray, List.set_cons_zero, List.set_cons_succ, i64_w, i32_w]
            rfl
          refine one_ (i := 5) (N := some 34) #[true, true, true, true, true, true, false, true, true, false, false, false] rfl rfl (by kernel_rfl) (by decide) (fun K hK => ?_)
          refine value_ (w1 := wr3) (v := .string (strOfNums [k])) (by rfl) rfl ?_ ?_
          · exact conv1 k G1.out (by rfl)
          refine hK.out _ _ trivial (fun hHeld => ?_)
          clear hK K
          refine norm_ (a' := ?_) ?_ ?_
          rotate_left
          · show Act.put _ (some 34) _ = _
            simp only [Act.put, List.setIfInBounds_toArray, List.set_cons_zero, List.set_cons_succ, i64_w, i32_w]
            rfl
          refine pure_ (i := 6) (N := some 35) (v := ?_) (a' := ?_) #[true, true, true, true, true, true, true, true, true, false, false, false] rfl rfl (by kernel_rfl) (fun _ _ _ h => h) (Or.inl ⟨by rfl, ?_⟩) ?_ ?_
          rotate_left
          · intro w'
            go_simp
            with_reducible rfl
          rotate_left
          · simp only [Act.put, List.setIfInBounds_toArray, List.set_cons_zero, List.set_cons_succ, i64_w, i32_w]
            rfl
          exact norm_ (by simp only [putAll, Act.put, List.setIfInBounds_toArray, List.set_cons_zero, List.set_cons_succ]) (hCont (.slice (some ⟨g, 0, none⟩) 1 1) _ HR3.out)
      · skip
        refine value_ (w1 := wr1) (v := .string (strOfNums [k])) (by rfl) rfl ?_ ?_
        · exact conv1 k G1.out (by rfl)
        refine hK.out _ _ trivial (fun hHeld => ?_)
        clear hK K
        refine norm_ (a' := ?_) ?_ ?_
        rotate_left
        · show Act.put _ (some 34) _ = _
          simp only [Act.put, List.setIfInBounds_toArray, List.set_cons_zero, List.set_cons_succ, i64_w, i32_w]
          rfl
        refine one_ (i := 1) (N := some 30) #[true, true, false, true, true, true, false, true, false, false, false, false] rfl rfl (by kernel_rfl) (by decide) (fun K hK => ?_)
        refine goes_ Tryd.func17 (by kernel_rfl) rfl #[.int .i64 X] (by rfl) rfl rfl (by simp only [List.map_toArray, List.map_cons, List.map_nil]; rfl) ?_
        with_reducible refine (leb_is _ (Below.refl wr1.heap.size wr1)).mono ?_
        rintro e wr2 ⟨rfl, hb⟩
        refine ⟨_, rfl, ?_⟩
        have HR2 := Aside0.mk (below_step HR1.out hb)
        have G1b := Aside0.mk (blk_below G1.out hb)
        clear G1
        have G1 := G1b
        clear G1b
        clear hb HR1
        refine hK.out _ _ trivial (fun hHeld => ?_)
        clear hK K
        refine norm_ (a' := ?_) ?_ ?_
        rotate_left
        · show Act.put _ (some 30) _ = _
          simp only [Act.put, List.setIfInBounds_toArray, List.set_cons_zero, List.set_cons_succ, i64_w, i32_w]
          rfl
        refine pure_ (i := 2) (N := some 31) (v := ?_) (a' := ?_) #[true, true, true, true, true, true, false, true, false, false, false, false] rfl rfl (by kernel_rfl) (fun _ _ _ h => h) (Or.inl ⟨by rfl, ?_⟩) ?_ ?_
        rotate_left
        · intro w'
          go_simp
          with_reducible rfl
        rotate_left
        · simp only [Act.put, List.setIfInBounds_toArray, List.set_cons_zero, List.set_cons_succ, i64_w, i32_w]
          rfl
        refine pure_ (i := 6) (N := some 35) (v := ?_) (a' := ?_) #[true, true, true, true, true, true, true, true, false, false, false, false] rfl rfl (by kernel_rfl) (fun _ _ _ h => h) (Or.inl ⟨by rfl, ?_⟩) ?_ ?_
        rotate_left
        · intro w'
          go_simp
          with_reducible rfl
        rotate_left
        · simp only [Act.put, List.setIfInBounds_toArray, List.set_cons_zero, List.set_cons_succ, i64_w, i32_w]
          rfl
        refine one_ (i := 8) (N := some 37) #[true, true, true, true, true, true, true, true, true, false, false, false] rfl rfl (by kernel_rfl) (by decide) (fun K hK => ?_)
        refine goes_ Tryd.func17 (by kernel_rfl) rfl #[.int .i64 Y] (by rfl) rfl rfl (by simp only [List.map_toArray, List.map_cons, List.map_nil]; rfl) ?_
        with_reducible refine (leb_is _ (Below.refl wr2.heap.size wr2)).mono ?_
        rintro e wr3 ⟨rfl, hb⟩
        refine ⟨_, rfl, ?_⟩
        have HR3 := Aside0.mk (below_step HR2.out hb)
        have G1b := Aside0.mk (blk_below G1.out hb)
        clear G1
        have G1 := G1b
        clear G1b
        clear hb HR2
        refine hK.out _ _ trivial (fun hHeld => ?_)
        clear hK K
        refine norm_ (a' := ?_) ?_ ?_
        rotate_left
        · show Act.put _ (some 37) _ = _
          simp only [Act.put, List.setIfInBounds_toArray, List.set_cons_zero, List.set_cons_succ, i64_w, i32_w]
          rfl
        exact norm_ (by simp only [putAll, Act.put, List.setIfInBounds_toArray, List.set_cons_zero, List.set_cons_succ]) (hCont (.slice (some ⟨g, 0, none⟩) 1 1) _ HR3.out)
  rintro sv w5 hb5
  have BW_5 := Aside0.mk hb5
  clear hb5
  have hHeld : True := trivial
  refine norm_ (a' := ?_) ?_ ?_
  rotate_left
  · simp only [putAll, Act.put, List.setIfInBounds_toArray, List.set_cons_zero, List.set_cons_succ]
    rfl
  refine pure_ (i := 9) (N := some 38) (v := ?_) (a' := ?_) #[true, true, true, true, true, true, true, true, true, true, false, false] rfl rfl (by kernel_rfl) (fun _ _ _ h => h) (Or.inl ⟨by rfl, ?_⟩) ?_ ?_
  rotate_left
  · intro w'
    go_simp
    with_reducible rfl
  rotate_left
  · simp only [Act.put, List.setIfInBounds_toArray, List.set_cons_zero, List.set_cons_succ, i64_w, i32_w]
    rfl
  refine pure_ (i := 10) (N := some 39) (v := ?_) (a' := ?_) #[true, true, true, true, true, true, true, true, true, true, true, false] rfl rfl (by kernel_rfl) (fun _ _ _ h => h) (Or.inl ⟨by rfl, ?_⟩) ?_ ?_
  rotate_left
  · intro w'
    go_simp
    with_reducible rfl
  rotate_left
  · simp only [Act.put, List.setIfInBounds_toArray, List.set_cons_zero, List.set_cons_succ, i64_w, i32_w]
    rfl
  refine pure_ (i := 11) (N := some 10) (v := ?_) (a' := ?_) #[true, true, true, true, true, true, true, true, true, true, true, true] rfl rfl (by kernel_rfl) (fun _ _ _ h => h) (Or.inl ⟨by rfl, ?_⟩) ?_ ?_
  rotate_left
  · intro w'
    go_simp
    with_reducible rfl
  rotate_left
  · simp only [Act.put, List.setIfInBounds_toArray, List.set_cons_zero, List.set_cons_succ, i64_w, i32_w]
    rfl
  refine done_ (by kernel_rfl) ?_

  clear HB1
  go_wp2_with (first
    | (go_at_call 17; (with_reducible refine (leb_is _ (Below.refl w5.heap.size w5)).mono ?_); rintro e w6 ⟨rfl, hb⟩; have BW_6 := Aside0.mk (BW_5.out.trans (hb.mono BW_5.out.size)); clear BW_5; clear hb)
    | (go_at_call 20; (with_reducible refine (section_is 3 _ S3.out (Below.refl w6.heap.size w6)).mono ?_); rintro e w7 ⟨rfl, hb⟩; have BW_7 := Aside0.mk (BW_6.out.trans (hb.mono BW_6.out.size)); clear BW_6; clear hb)
    | (go_at_call 20; (with_reducible refine (section_is 10 _ SP.out (Below.refl w7.heap.size w7)).mono ?_); rintro e w8 ⟨rfl, hb⟩; have BW_8 := Aside0.mk (BW_7.out.trans (hb.mono BW_7.out.size)); clear BW_7; clear hb)
    | (go_at_call 13; (with_reducible refine (mod_code_c EA.out HC.out HN.out (tabs_below HT.out BW_8.out)).mono ?_); rintro e w9 ⟨ad, P0, d0, c9, A0, c0, A1, c1, A2, c2, A3, c3, A4, c4, A5, c5, A6, c6, A8, c8, A10, c10, rfl, z0, CC, hb⟩; have BW_9 := Aside0.mk (BW_8.out.trans (hb.mono BW_8.out.size)); clear BW_8; have BX_9 := Aside0.mk (Below.refl w9.heap.size w9); have Zad := Aside0.mk (show w9.cell? ad = some (.slice P0 N d0) from z0); obtain ⟨WC, hWC⟩ : ∃ WC, WC = w9 := ⟨_, rfl⟩; have BC := Aside0.mk (show Below WC.heap.size WC w9 by rw [hWC]; exact Below.refl _ _); have CI := Aside0.mk (show (Kd.int .i64).C WC P0 N l.f0 by rw [hWC]; exact CC); clear z0 CC hWC; clear hb)
    | ((with_reducible refine gate_dst (N := 12) rfl ?_); refine box_event ?hg (N := 12) ?hd (cs := #[.slice none 0 0, .slice none 0 0, .slice none 0 0, .slice none 0 0, .slice none 0 0, .slice none 0 0, .slice none 0 0, .int .i64 0, .slice none 0 0, .slice none 0 0, .slice none 0 0]) (t := 33) ?hr ?_; (case hd => rfl); (case hg => rfl); (case hr => first | (go_simp; done) | (go_simp; rfl)); intro q1 hgq1 w10 hA hb; have Jq1 := Aside0.mk hA; have Mq1 := Aside0.mk (show W.heap.size ≤ q1 by have := BW_9.out.size; omega); have MXq1 := Aside0.mk (show w9.heap.size ≤ q1 by have := BX_9.out.size; omega); have MCq1 := Aside0.mk (show WC.heap.size ≤ q1 by have := BC.out.size; omega); have BCb := Aside0.mk (BC.out.trans (hb.mono BC.out.size)); clear BC; have BC := BCb; clear BCb; have BW_10 := Aside0.mk (BW_9.out.trans (hb.mono BW_9.out.size)); clear BW_9; have BX_10 := Aside0.mk (BX_9.out.trans (hb.mono BX_9.out.size)); clear BX_9; clear hA hb hgq1)
    | ((with_reducible refine gate_store (p := 12) rfl ?_); refine storeRow_event (g := q1) rfl rfl rfl (cs := #[.slice A0 mT.types.length c0, .slice A1 mT.imports.length c1, .slice A2 mT.funcs.length c2, .slice A3 mT.tables.length c3, .slice A4 mT.mems.length c4, .slice A5 mT.globals.length c5, .slice A6 mT.exports.length c6, .int .i64 mT.start, .slice A8 mT.elems.length c8, .slice (some ad) 1 c9, .slice A10 mT.datas.length c10]) rfl rfl Jq1.out (by kernel_rfl) rfl (by simp [Value.oneCell']) ?_; intro w11 hA hb ho hs; have BCb := Aside0.mk (hb _ _ MCq1.out BC.out); clear BC MCq1; have BC := BCb; clear BCb; have BW_11 := Aside0.mk (hb _ _ Mq1.out BW_10.out); clear BW_10; have BX_11 := Aside0.mk (hb _ _ MXq1.out BX_10.out); clear BX_10; clear Jq1 Mq1 MXq1; have Zadb := Aside0.mk (pw_cell_below BX_11.out Zad.out); clear Zad; have Zad := Zadb; clear Zadb; clear BX_11; have BX_11 := Aside0.mk (Below.refl w11.heap.size w11); have Zq19 := Aside0.mk (show w11.cell? ⟨q1, 9, none⟩ = some (.slice (some ad) 1 c9) from blk_cell hA 9); clear hA hb ho hs)
    | (go_at_call 20; (with_reducible refine (section_is 3 _ S3.out (Below.refl w11.heap.size w11)).mono ?_); rintro e w12 ⟨rfl, hb⟩; have BCb := Aside0.mk (BC.out.trans (hb.mono BC.out.size)); clear BC; have BC := BCb; clear BCb; have BW_12 := Aside0.mk (BW_11.out.trans (hb.mono BW_11.out.size)); clear BW_11; have BX_12 := Aside0.mk (BX_11.out.trans (hb.mono BX_11.out.size)); clear BX_11; clear hb)
    | (go_at_call 17; (with_reducible refine (leb_is _ (Below.refl w12.heap.size w12)).mono ?_); rintro e w13 ⟨rfl, hb⟩; have BCb := Aside0.mk (BC.out.trans (hb.mono BC.out.size)); clear BC; have BC := BCb; clear BCb; have BW_13 := Aside0.mk (BW_12.out.trans (hb.mono BW_12.out.size)); clear BW_12; have BX_13 := Aside0.mk (BX_12.out.trans (hb.mono BX_12.out.size)); clear BX_12; clear hb)
    | (go_at_call 20; (with_reducible refine (section_is 10 _ SQ.out (Below.refl w13.heap.size w13)).mono ?_); rintro e w14 ⟨rfl, hb⟩; have BCb := Aside0.mk (BC.out.trans (hb.mono BC.out.size)); clear BC; have BC := BCb; clear BCb; have BW_14 := Aside0.mk (BW_13.out.trans (hb.mono BW_13.out.size)); clear BW_13; have BX_14 := Aside0.mk (BX_13.out.trans (hb.mono BX_13.out.size)); clear BX_13; clear hb)
    | (go_at_call 13; (with_reducible refine (mod_er_c EB.out (tabs_below HT.out BW_14.out) (Below.refl w14.heap.size w14)).mono ?_); rintro e w15 ⟨rfl, hb⟩; have BCb := Aside0.mk (BC.out.trans (hb.mono BC.out.size)); clear BC; have BC := BCb; clear BCb; have BW_15 := Aside0.mk (BW_14.out.trans (hb.mono BW_14.out.size)); clear BW_14; have BX_15 := Aside0.mk (BX_14.out.trans (hb.mono BX_14.out.size)); clear BX_14; clear hb)
    | ((with_reducible refine gate_dst (N := 14) rfl ?_); refine box_event ?hg (N := 14) ?hd (cs := #[.slice none 0 0, .slice none 0 0, .slice none 0 0, .slice none 0 0, .slice none 0 0, .slice none 0 0, .slice none 0 0, .int .i64 0, .slice none 0 0, .slice none 0 0, .slice none 0 0]) (t := 33) ?hr ?_; (case hd => rfl); (case hg => rfl); (case hr => first | (go_simp; done) | (go_simp; rfl)); intro q2 hgq2 w16 hA hb; have Jq2 := Aside0.mk hA; have Mq2 := Aside0.mk (show W.heap.size ≤ q2 by have := BW_15.out.size; omega); have MXq2 := Aside0.mk (show w11.heap.size ≤ q2 by have := BX_15.out.size; omega); have MCq2 := Aside0.mk (show WC.heap.size ≤ q2 by have := BC.out.size; omega); have BCb := Aside0.mk (BC.out.trans (hb.mono BC.out.size)); clear BC; have BC := BCb; clear BCb; have BW_16 := Aside0.mk (BW_15.out.trans (hb.mono BW_15.out.size)); clear BW_15; have BX_16 := Aside0.mk (BX_15.out.trans (hb.mono BX_15.out.size)); clear BX_15; clear hA hb hgq2)
    | ((with_reducible refine gate_store (p := 14) rfl ?_); refine storeRow_event (g := q2) rfl rfl rfl (cs := #[.slice none 0 0, .slice none 0 0, .slice none 0 0, .slice none 0 0, .slice none 0 0, .slice none 0 0, .slice none 0 0, .int .i64 0, .slice none 0 0, .slice none 0 0, .slice none 0 0]) rfl rfl Jq2.out (by kernel_rfl) rfl (by simp [Value.oneCell']) ?_; intro w17 hA hb ho hs; have BCb := Aside0.mk (hb _ _ MCq2.out BC.out); clear BC MCq2; have BC := BCb; clear BCb; have BW_17 := Aside0.mk (hb _ _ Mq2.out BW_16.out); clear BW_16; have BX_17 := Aside0.mk (hb _ _ MXq2.out BX_16.out); clear BX_16; clear Jq2 Mq2 MXq2; clear hA hb ho hs)
    | (go_at_call 14; (with_reducible refine (num_is _ (Below.refl w17.heap.size w17)).mono ?_); rintro e w18 ⟨rfl, hb⟩; have BCb := Aside0.mk (BC.out.trans (hb.mono BC.out.size)); clear BC; have BC := BCb; clear BCb; have BW_18 := Aside0.mk (BW_17.out.trans (hb.mono BW_17.out.size)); clear BW_17; have BX_18 := Aside0.mk (BX_17.out.trans (hb.mono BX_17.out.size)); clear BX_17; have yad : w18.cell? ad = some (.slice P0 N d0) := pw_cell_below BX_18.out Zad.out; have yq19 : w18.cell? ⟨q1, 9, none⟩ = some (.slice (some ad) 1 c9) := pw_cell_below BX_18.out Zq19.out; clear hb)
    | (go_at_call 14; (with_reducible refine (num_is _ (Below.refl w18.heap.size w18)).mono ?_); rintro e w19 ⟨rfl, hb⟩; have BCb := Aside0.mk (BC.out.trans (hb.mono BC.out.size)); clear BC; have BC := BCb; clear BCb; have BW_19 := Aside0.mk (BW_18.out.trans (hb.mono BW_18.out.size)); clear BW_18; have BX_19 := Aside0.mk (BX_18.out.trans (hb.mono BX_18.out.size)); clear BX_18; clear yad; have yad : w19.cell? ad = some (.slice P0 N d0) := pw_cell_below BX_19.out Zad.out; clear yq19; have yq19 : w19.cell? ⟨q1, 9, none⟩ = some (.slice (some ad) 1 c9) := pw_cell_below BX_19.out Zq19.out; clear hb))
  go_loopg [16] N (fun n v16 wr => ∃ i : Nat, i + n = N ∧ v16 = .int .i64 i ∧ Below W.heap.size W wr ∧ Below WC.heap.size WC wr ∧ Below w11.heap.size w11 wr)
  case atStart => exact ⟨0, by omega, rfl, BW_19.out, BC.out, BX_19.out⟩
  case round =>
    obtain ⟨i, hi, rfl, hB1, hB2, hB3⟩ := hrel
    clear BW_19 BC BX_19 yad yq19
    have I0 := Aside0.mk hi
    have BW := Aside0.mk hB1
    have BC := Aside0.mk hB2
    have BX := Aside0.mk hB3
    clear hi hB1 hB2 hB3
    have yad : wr.cell? ad = some (.slice P0 N d0) := pw_cell_below BX.out Zad.out
    have yq19 : wr.cell? ⟨q1, 9, none⟩ = some (.slice (some ad) 1 c9) := pw_cell_below BX.out Zq19.out
    by_cases hlt : i < N
    · have dl3 : decide (i < N) = true := decide_eq_true hlt
      have dl : decide ((i : Int) < (N : Int)) = true := decide_eq_true (by omega)
      have LT := Aside0.mk hlt
      have i0 : (0 : Int) ≤ (i : Int) := by omega
      have iN : (i : Int) < (N : Int) := by omega
      obtain ⟨pa, e, hpa⟩ := Kd.at_int (Kd.C_below CI.out BC.out) (i : Int) i0 iN
      cases e
      rw [HL.out] at hpa
      simp only [Int.toNat_natCast] at hpa
      by_cases hxi : i < X
      · have dx : decide ((i : Int) < (X : Int)) = true := decide_eq_true (by omega)
        have dx2 : decide ((X : Int) ≤ (i : Int)) = false := decide_eq_false (by omega)
        have dx3 : decide (i < X) = true := decide_eq_true hxi
        have dx4 : decide (X ≤ i) = false := decide_eq_false (by omega)
        rw [rd_left hxi] at hpa
        clear hxi hlt
        have w1 := wrap_succ (n := i) (by have := LT.out; omega)
        replace i0 := eq_true i0
        replace iN := eq_true iN
        go_wp2
        go_roundg (N - (i + 1))
        case measure => have := I0.out; have := LT.out; omega
        case rel => exact ⟨i + 1, by have := LT.out; omega, by rw [w1]; rfl, BW.out, BC.out, BX.out⟩
      · have dx : decide ((i : Int) < (X : Int)) = false := decide_eq_false (by omega)
        have dx2 : decide ((X : Int) ≤ (i : Int)) = true := decide_eq_true (by omega)
        have dx3 : decide (i < X) = false := decide_eq_false hxi
        have dx4 : decide (X ≤ i) = true := decide_eq_true (by omega)
        rw [rd_right (by omega) (by have := HXY.out; omega)] at hpa
        clear hxi hlt
        have w1 := wrap_succ (n := i) (by have := LT.out; omega)
        replace i0 := eq_true i0
        replace iN := eq_true iN
        go_wp2
        go_roundg (N - (i + 1))
        case measure => have := I0.out; have := LT.out; omega
        case rel => exact ⟨i + 1, by have := LT.out; omega, by rw [w1]; rfl, BW.out, BC.out, BX.out⟩
    · have dl3 : decide (i < N) = false := decide_eq_false hlt
      have dl : decide ((i : Int) < (N : Int)) = false := decide_eq_false (by omega)
      clear hlt
      go_wp2
      go_ret
      exact ⟨rfl, BW.out⟩
theorem locals_calls (a0 a1 a2 : Int) (W : World) (hT : Tabs W) : Calls Tryd.prog 11 #[.int .i64 a0, .int .i64 a1, .int .i64 a2] W fun e w' => e = .returned (.bool true) ∧ Below W.heap.size W w' := by
  have m8 : ∀ a : Int, Go.bits .and .i64 a 255 = a % 256 := fun a => by
    have := LebMath.and_mask a 8 (by decide) 255 (by decide)
    simpa using this
  obtain ⟨X, hX⟩ : ∃ X : Nat, (X : Int) = a0 % 256 := ⟨(a0 % 256).toNat, by omega⟩
  obtain ⟨Y, hY⟩ : ∃ Y : Nat, (Y : Int) = a1 % 256 := ⟨(a1 % 256).toNat, by omega⟩
  obtain ⟨k, hk⟩ : ∃ k, wrap64 (127 - wrap64 ((IntKind.u64.wrap a2).tmod 4)) % 256 = k := ⟨_, rfl⟩
  have rk : 124 ≤ k ∧ k ≤ 127 := by
    rw [← hk, LebMath.u64_eq, Int.tmod_eq_emod_of_nonneg (by omega)]
    unfold wrap64
    omega
  by_cases h : X + Y ≤ 256
  · exact locals_fine a0 a1 a2 X Y (X + Y) k (by rw [m8, hX]) (by rw [m8, hY]) hk rk (by omega) (by omega) rfl h W hT
  · exact locals_long a0 a1 a2 X Y (X + Y) k (by rw [m8, hX]) (by rw [m8, hY]) hk rk (by omega) (by omega) rfl (by omega) W hT
end Go.Proofs.YtkdoijfjceeblaaDoor.EDec
