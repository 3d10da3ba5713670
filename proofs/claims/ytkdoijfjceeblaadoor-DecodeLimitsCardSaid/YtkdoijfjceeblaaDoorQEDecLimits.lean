/-
  What the claim leans on, in the order of its making: words about values and worlds, the printed functions, the decoder in plain words and its walk. Cut to what is used by wip/tools/prune15.py. (EDecLimits)
-/
import Derived.Test.YtkdoijfjceeblaaDoorQEDecLim
namespace Go.Proofs.YtkdoijfjceeblaaDoor.EDec
open Go Go.RowKit Go.Proofs.YtkdoijfjceeblaaDoor.F Go.Proofs.YtkdoijfjceeblaaDoorW.Hand Go.Proofs.YtkdoijfjceeblaaDoorW.PrintWords Go.Proofs.YtkdoijfjceeblaaDoorW.PrintLast Go.Proofs.YtkdoijfjceeblaaDoorW.PrintMore
open Go.Proofs.YtkdoijfjceeblaaDoor.LebGets (G)
open Go.Proofs.YtkdoijfjceeblaaDoor.ENames (Tabs tabs_below nget nmay)
open Go.Proofs.YtkdoijfjceeblaaDoor.EInstr (GRes pGet get_b ret_int wrap_bt)
set_option linter.unusedVariables false
set_option linter.unusedSimpArgs false
theorem tab_bad {f x y : Int} : tabS 113 f x y = (⟨#[1, 113]⟩ : ByteArray) ++ limS f x y := by
  rw [tabS, ← ByteArray.append_assoc]; congr 1
theorem mod_tab_c {s : ByteArray} {mT : Mod} {l : S54} (h : dMod s = .ok mT) (ht : mT.tables = [l]) {W : World} (hT : Tabs W) : Calls Tryd.prog 13 #[.string s] W fun e w' => ∃ ad c3 A0 c0 A1 c1 A2 c2 A4 c4 A5 c5 A6 c6 A8 c8 A9 c9 A10 c10, e = .returned (.tuple #[.agg #[.slice A0 mT.types.length c0, .slice A1 mT.imports.length c1, .slice A2 mT.funcs.length c2, .slice (some ad) 1 c3, .slice A4 mT.mems.length c4, .slice A5 mT.globals.length c5, .slice A6 mT.exports.length c6, .int .i64 mT.start, .slice A8 mT.elems.length c8, .slice A9 mT.codes.length c9, .slice A10 mT.datas.length c10], .int .i64 0]) ∧ w'.cell? ad = some (.int .i64 l.f0) ∧ w'.cell? ⟨ad.block, ad.off + 1, none⟩ = some (.int .i64 l.f1) ∧ Below W.heap.size W w' := by
  refine (mod_ok_c h hT (Below.refl W.heap.size W)).mono ?_
  rintro e w' ⟨A0, c0, A1, c1, A2, c2, A3, c3, A4, c4, A5, c5, A6, c6, A8, c8, A9, c9, A10, c10, rfl, ⟨u0, u1, u2, u3, u4, u5, u6, u8, u9, u10, hu, g0, g1, g2, g3, g4, _⟩, hb⟩
  simp only [Value.agg.injEq, Array.mk.injEq, List.cons.injEq] at hu
  rw [← hu.2.2.2.1] at g3
  have e1 : mT.tables.length = 1 := by rw [ht]; rfl
  obtain ⟨-, -, C0⟩ := Kd.R_reads' g3
  rw [ht] at C0
  obtain ⟨ad, rfl, z0, z1⟩ := at_T54 C0 0 (Int.le_refl _) (by simp)
  have ea : ad.add ((0 : Int).toNat * 2) = ad := by
    have e : ((0 : Int).toNat * 2) = 0 := rfl
    rw [e]; unfold Addr.add; split <;> simp_all
  rw [ea] at z0 z1
  rw [e1]
  exact ⟨ad, c3, A0, c0, A1, c1, A2, c2, A4, c4, A5, c5, A6, c6, A8, c8, A9, c9, A10, c10, rfl, z0, z1, hb⟩
theorem mod_mem_c {s : ByteArray} {mT : Mod} {l : S54} (h : dMod s = .ok mT) (ht : mT.mems = [l]) {W : World} (hT : Tabs W) : Calls Tryd.prog 13 #[.string s] W fun e w' => ∃ ad c4 A0 c0 A1 c1 A2 c2 A3 c3 A5 c5 A6 c6 A8 c8 A9 c9 A10 c10, e = .returned (.tuple #[.agg #[.slice A0 mT.types.length c0, .slice A1 mT.imports.length c1, .slice A2 mT.funcs.length c2, .slice A3 mT.tables.length c3, .slice (some ad) 1 c4, .slice A5 mT.globals.length c5, .slice A6 mT.exports.length c6, .int .i64 mT.start, .slice A8 mT.elems.length c8, .slice A9 mT.codes.length c9, .slice A10 mT.datas.length c10], .int .i64 0]) ∧ w'.cell? ad = some (.int .i64 l.f0) ∧ w'.cell? ⟨ad.block, ad.off + 1, none⟩ = some (.int .i64 l.f1) ∧ Below W.heap.size W w' := by
  refine (mod_ok_c h hT (Below.refl W.heap.size W)).mono ?_
  rintro e w' ⟨A0, c0, A1, c1, A2, c2, A3, c3, A4, c4, A5, c5, A6, c6, A8, c8, A9, c9, A10, c10, rfl, ⟨u0, u1, u2, u3, u4, u5, u6, u8, u9, u10, hu, g0, g1, g2, g3, g4, _⟩, hb⟩
  simp only [Value.agg.injEq, Array.mk.injEq, List.cons.injEq] at hu
  rw [← hu.2.2.2.2.1] at g4
  have e1 : mT.mems.length = 1 := by rw [ht]; rfl
  obtain ⟨-, -, C0⟩ := Kd.R_reads' g4
  rw [ht] at C0
  obtain ⟨ad, rfl, z0, z1⟩ := at_T54 C0 0 (Int.le_refl _) (by simp)
  have ea : ad.add ((0 : Int).toNat * 2) = ad := by
    have e : ((0 : Int).toNat * 2) = 0 := rfl
    rw [e]; unfold Addr.add; split <;> simp_all
  rw [ea] at z0 z1
  rw [e1]
  exact ⟨ad, c4, A0, c0, A1, c1, A2, c2, A3, c3, A5, c5, A6, c6, A8, c8, A9, c9, A10, c10, rfl, z0, z1, hb⟩
set_option maxHeartbeats 8000000 in
set_option maxRecDepth 100000 in
theorem limits_zero (a0 a1 a2 : Int) (x y : Int) (hx : Go.bits .and .i64 a0 4294967295 = x) (hy : Go.bits .and .i64 a1 4294967295 = y) (ef : Go.bits .and .i64 a2 3 % 256 = 0) (rx : 0 ≤ x ∧ x < 4294967296) (ry : 0 ≤ y ∧ y < 4294967296) (W : World) (hT : Tabs W) : Calls Tryd.prog 7 #[.int .i64 a0, .int .i64 a1, .int .i64 a2] W fun e w' => e = .returned (.bool true) ∧ Below W.heap.size W w' := by
  have HT := Aside0.mk hT
  have HB0 := Aside0.mk (Below.refl W.heap.size W)
  have zx := lebS_size x
  have zy := lebS_size y
  have s1 : (strOfNums [0]).size = 1 := str_size _
  have eS : limS 0 x y = (strOfNums [0] ++ lebS x) := by rw [limS, if_neg (by decide)]
  have zS := (limS_size 0 x y).1
  rw [eS] at zS
  have t2 : (⟨#[1, 112]⟩ : ByteArray).size = 2 := rfl
  have t3 : (⟨#[1, 113]⟩ : ByteArray).size = 2 := rfl
  have t4 : (⟨#[1]⟩ : ByteArray).size = 1 := rfl
  have S4 := Aside0.mk (show ((⟨#[1, 112]⟩ : ByteArray) ++ (strOfNums [0] ++ lebS x)).size ≤ 140737488355328 by rw [ByteArray.size_append]; omega)
  have S5 := Aside0.mk (show ((⟨#[1]⟩ : ByteArray) ++ (strOfNums [0] ++ lebS x)).size ≤ 140737488355328 by rw [ByteArray.size_append]; omega)
  have S4b := Aside0.mk (show ((⟨#[1, 113]⟩ : ByteArray) ++ (strOfNums [0] ++ lebS x)).size ≤ 140737488355328 by rw [ByteArray.size_append]; omega)
  have e4 := limT_ok (f := 0) (.inl rfl) rx ry
  rw [tab_lim, eS] at e4
  have e5 := limM_ok (f := 0) (.inl rfl) rx ry
  rw [memS, eS] at e5
  have eb := limT_er (b := 113) (f := 0) (x := x) (y := y) (by omega) (by omega) (by omega)
  rw [tab_bad, eS] at eb
  obtain ⟨mT, hmT⟩ : ∃ mT : Mod, mT = { m0 with tables := [limV 0 x y] } := ⟨_, rfl⟩
  obtain ⟨mO, hmO⟩ : ∃ mO : Mod, mO = { m0 with mems := [limV 0 x y] } := ⟨_, rfl⟩
  rw [← hmT] at e4
  rw [← hmO] at e5
  have T4 := Aside0.mk (show mT.tables = [⟨x, (-1)⟩] by rw [hmT]; simp [limV])
  have T5 := Aside0.mk (show mO.mems = [⟨x, (-1)⟩] by rw [hmO]; simp [limV])
  clear hmT hmO
  have E4 := Aside0.mk e4
  have E5 := Aside0.mk e5
  have EB := Aside0.mk eb
  have z4 := secS_size 4 ((⟨#[1, 112]⟩ : ByteArray) ++ (strOfNums [0] ++ lebS x))
  have z5 := secS_size 5 ((⟨#[1]⟩ : ByteArray) ++ (strOfNums [0] ++ lebS x))
  have z6 := secS_size 4 ((⟨#[1, 113]⟩ : ByteArray) ++ (strOfNums [0] ++ lebS x))
  rw [ByteArray.size_append] at z4 z5 z6
  have n0 := sum_ok (a := (strOfNums [0]).size) (b := (lebS x).size) (by omega)
  have n1 : ¬ 9223372036854775807 < (strOfNums [0]).size + (lebS x).size + (lebS y).size := by omega
  have n1' : ¬ 9223372036854775807 < (strOfNums [0] ++ lebS x).size + (lebS y).size := by rw [ByteArray.size_append]; omega
  have n2 := sum_ok (a := 2) (b := ((strOfNums [0] ++ lebS x)).size) (by omega)
  have n3 := sum_ok (a := 1) (b := ((strOfNums [0] ++ lebS x)).size) (by omega)
  have n4 := sum_ok (a := 8) (b := (secS 4 ((⟨#[1, 112]⟩ : ByteArray) ++ (strOfNums [0] ++ lebS x))).size) (by omega)
  have n5 := sum_ok (a := 8) (b := (secS 5 ((⟨#[1]⟩ : ByteArray) ++ (strOfNums [0] ++ lebS x))).size) (by omega)
  have n6 := sum_ok (a := 8) (b := (secS 4 ((⟨#[1, 113]⟩ : ByteArray) ++ (strOfNums [0] ++ lebS x))).size) (by omega)
  have n2' := n2
  have n3' := n3
  simp only [ByteArray.size_append] at n2' n3'
  clear e4 e5 eb zx zy zS z4 z5 z6 t2 t3 t4 rx ry hT eS s1
  go_enter Tryd.func7, Tryd.ntmps7
  go_wp2_with (first
    | (go_at_call 12; (with_reducible refine (awake_c HT.out HB0.out).mono ?_); rintro e w1 ⟨rfl, hb⟩; have HB1 := Aside0.mk hb; clear hb HB0))
  obtain ⟨WD, hWD⟩ : ∃ WD, WD = w1 := ⟨_, rfl⟩
  subst hWD
  have HR0 : Aside0 (Below W.heap.size W WD.drew) := ⟨below_drew HB1.out⟩
  refine start_ (n := 7) (S := fun w' => True) (ds := []) #[false, false, false, false, false, false, false] (by kernel_rfl) rfl rfl trivial (fun hHeld => ?_)
  refine pure_ (i := 0) (N := some 27) (v := ?_) (a' := ?_) #[true, false, false, false, false, false, false] rfl rfl (by kernel_rfl) (fun _ _ _ h => h) (Or.inl ⟨by rfl, ?_⟩) ?_ ?_
  rotate_left
  · intro w'
    go_simp
    with_reducible rfl
  rotate_left
  · simp only [Act.put, List.setIfInBounds_toArray, List.set_cons_zero, List.set_cons_succ, i64_w, i32_w]
    rfl
  refine pure_ (i := 3) (N := some 30) (v := ?_) (a' := ?_) #[true, false, false, true, false, false, false] rfl rfl (by kernel_rfl) (fun _ _ _ h => h) (Or.inl ⟨by rfl, ?_⟩) ?_ ?_
  rotate_left
  · intro w'
    go_simp
    with_reducible rfl
  rotate_left
  · simp only [Act.put, List.setIfInBounds_toArray, List.set_cons_zero, List.set_cons_succ, i64_w, i32_w]
    rfl
  refine join_ (σ := Value) 2 #[true, true, true, true, true, false, false] (fun s => [(28, s), (29, .string (strOfNums [0])), (31, .string (lebS x))]) (fun s W1 => Below W.heap.size W W1) ?_ ?_
  rotate_left
  · intro hCont
    refine two_ (i := 1) (j := 4) (Ni := some 28) (Nj := some 31) #[true, true, false, true, false, false, false] #[true, false, false, true, true, false, false] rfl rfl rfl rfl (by kernel_rfl) (by decide) (by decide) (fun K hK => ?_) (fun K hK => ?_)
    · skip
      refine lit_step ?hw (N := 28) ?hd (cs := #[.int .u8 0]) (t := 5) (n := 1) ?hr ?_
      case hw => rfl
      case hd => rfl
      case hr => first | (go_simp; done) | (go_simp; rfl)
      intro g hg wr1 hA hb
      have G1 := Aside0.mk hA
      have HR1 := Aside0.mk (below_step HR0.out hb)
      clear hA hb hg HR0
      refine hK.out _ _ trivial (fun hHeld => ?_)
      clear hK K
      refine norm_ (a' := ?_) ?_ ?_
      rotate_left
      · show Act.put _ (some 28) _ = _
        simp only [Act.put, List.setIfInBounds_toArray, List.set_cons_zero, List.set_cons_succ, i64_w, i32_w]
        rfl
      refine two_ (i := 2) (j := 4) (Ni := some 29) (Nj := some 31) #[true, true, true, true, false, false, false] #[true, true, false, true, true, false, false] rfl rfl rfl rfl (by kernel_rfl) (by decide) (by decide) (fun K hK => ?_) (fun K hK => ?_)
      · skip
        refine value_ (w1 := wr1) (v := .string (strOfNums [0])) (by rfl) rfl ?_ ?_
        · exact conv1 (0) G1.out (by rfl)
        refine hK.out _ _ trivial (fun hHeld => ?_)
        clear hK K
        refine norm_ (a' := ?_) ?_ ?_
        rotate_left
        · show Act.put _ (some 29) _ = _
          simp only [Act.put, List.setIfInBounds_toArray, List.set_cons_zero, List.set_cons_succ, i64_w, i32_w]
          rfl
        refine one_ (i := 4) (N := some 31) #[true, true, true, true, true, false, false] rfl rfl (by kernel_rfl) (by decide) (fun K hK => ?_)
        refine goes_ Tryd.func17 (by kernel_rfl) rfl #[.int .i64 x] (by rfl) rfl rfl (by simp only [List.map_toArray, List.map_cons, List.map_nil]; rfl) ?_
        with_reducible refine (leb_is _ (Below.refl wr1.heap.size wr1)).mono ?_
        rintro e wr2 ⟨rfl, hb⟩
        refine ⟨_, rfl, ?_⟩
        have HR2 := Aside0.mk (below_step HR1.out hb)
        have G1b := Aside0.mk (blk_below G1.out hb)
        clear G1
        have G1 := G1b
        clear G1b
        clear hb HR1
        refine hK.out _ _ trivial (fun hHeld => ?_)
        clear hK K
        refine norm_ (a' := ?_) ?_ ?_
        rotate_left
        · show Act.put _ (some 31) _ = _
          simp only [Act.put, List.setIfInBounds_toArray, List.set_cons_zero, List.set_cons_succ, i64_w, i32_w]
          rfl
        exact norm_ (by simp only [putAll, Act.put, List.setIfInBounds_toArray, List.set_cons_zero, List.set_cons_succ]) (hCont (.slice (some ⟨g, 0, none⟩) 1 1) _ HR2.out)
      · skip
        refine goes_ Tryd.func17 (by kernel_rfl) rfl #[.int .i64 x] (by rfl) rfl rfl (by simp only [List.map_toArray, List.map_cons, List.map_nil]; rfl) ?_
        with_reducible refine (leb_is _ (Below.refl wr1.heap.size wr1)).mono ?_
        rintro e wr2 ⟨rfl, hb⟩
        refine ⟨_, rfl, ?_⟩
        have HR2 := Aside0.mk (below_step HR1.out hb)
        have G1b := Aside0.mk (blk_below G1.out hb)
        clear G1
        have G1 := G1b
        clear G1b
        clear hb HR1
        refine hK.out _ _ trivial (fun hHeld => ?_)
        clear hK K
        refine norm_ (a' := ?_) ?_ ?_
        rotate_left
        · show Act.put _ (some 31) _ = _
          simp only [Act.put, List.setIfInBounds_toArray, List.set_cons_zero, List.set_cons_succ, i64_w, i32_w]
          rfl
        refine one_ (i := 2) (N := some 29) #[true, true, true, true, true, false, false] rfl rfl (by kernel_rfl) (by decide) (fun K hK => ?_)
        refine value_ (w1 := wr2) (v := .string (strOfNums [0])) (by rfl) rfl ?_ ?_
        · exact conv1 (0) G1.out (by rfl)
        refine hK.out _ _ trivial (fun hHeld => ?_)
        clear hK K
        refine norm_ (a' := ?_) ?_ ?_
        rotate_left
        · show Act.put _ (some 29) _ = _
          simp only [Act.put, List.setIfInBounds_toArray, List.set_cons_zero, List.set_cons_succ, i64_w, i32_w]
          rfl
        exact norm_ (by simp only [putAll, Act.put, List.setIfInBounds_toArray, List.set_cons_zero, List.set_cons_succ]) (hCont (.slice (some ⟨g, 0, none⟩) 1 1) _ HR2.out)
    · skip
      refine goes_ Tryd.func17 (by kernel_rfl) rfl #[.int .i64 x] (by rfl) rfl rfl (by simp only [List.map_toArray, List.map_cons, List.map_nil]; rfl) ?_
      with_reducible refine (leb_is _ (Below.refl WD.drew.heap.size WD.drew)).mono ?_
      rintro e wr1 ⟨rfl, hb⟩
      refine ⟨_, rfl, ?_⟩
      have HR1 := Aside0.mk (below_step HR0.out hb)
      clear hb HR0
      refine hK.out _ _ trivial (fun hHeld => ?_)
      clear hK K
      refine norm_ (a' := ?_) ?_ ?_
      rotate_left
      · show Act.put _ (some 31) _ = _
        simp only [Act.put, List.setIfInBounds_toArray, List.set_cons_zero, List.set_cons_succ, i64_w, i32_w]
        rfl
      refine one_ (i := 1) (N := some 28) #[true, true, false, true, true, false, false] rfl rfl (by kernel_rfl) (by decide) (fun K hK => ?_)
      refine lit_step ?hw (N := 28) ?hd (cs := #[.int .u8 0]) (t := 5) (n := 1) ?hr ?_
      case hw => rfl
      case hd => rfl
      case hr => first | (go_simp; done) | (go_simp; rfl)
      intro g hg wr2 hA hb
      have G1 := Aside0.mk hA
      have HR2 := Aside0.mk (below_step HR1.out hb)
      clear hA hb hg HR1
      refine hK.out _ _ trivial (fun hHeld => ?_)
      clear hK K
      refine norm_ (a' := ?_) ?_ ?_
      rotate_left
      · show Act.put _ (some 28) _ = _
        simp only [Act.put, List.setIfInBounds_toArray, List.set_cons_zero, List.set_cons_succ, i64_w, i32_w]
        rfl
      refine one_ (i := 2) (N := some 29) #[true, true, true, true, true, false, false] rfl rfl (by kernel_rfl) (by decide) (fun K hK => ?_)
      refine value_ (w1 := wr2) (v := .string (strOfNums [0])) (by rfl) rfl ?_ ?_
      · exact conv1 (0) G1.out (by rfl)
      refine hK.out _ _ trivial (fun hHeld => ?_)
      clear hK K
      refine norm_ (a' := ?_) ?_ ?_
      rotate_left
      · show Act.put _ (some 29) _ = _
        simp only [Act.put, List.setIfInBounds_toArray, List.set_cons_zero, List.set_cons_succ, i64_w, i32_w]
        rfl
      exact norm_ (by simp only [putAll, Act.put, List.setIfInBounds_toArray, List.set_cons_zero, List.set_cons_succ]) (hCont (.slice (some ⟨g, 0, none⟩) 1 1) _ HR2.out)
  rintro sv w4 hb4
  have BW_4 := Aside0.mk hb4
  clear hb4
  have hHeld : True := trivial
  refine norm_ (a' := ?_) ?_ ?_
  rotate_left
  · simp only [putAll, Act.put, List.setIfInBounds_toArray, List.set_cons_zero, List.set_cons_succ]
    rfl
  refine pure_ (i := 5) (N := some 32) (v := ?_) (a' := ?_) #[true, true, true, true, true, true, false] rfl rfl (by kernel_rfl) (fun _ _ _ h => h) (Or.inl ⟨by rfl, ?_⟩) ?_ ?_
  rotate_left
  · intro w'
    go_simp
    with_reducible rfl
  rotate_left
  · simp only [Act.put, List.setIfInBounds_toArray, List.set_cons_zero, List.set_cons_succ, i64_w, i32_w]
    rfl
  refine pure_ (i := 6) (N := some 10) (v := ?_) (a' := ?_) #[true, true, true, true, true, true, true] rfl rfl (by kernel_rfl) (fun _ _ _ h => h) (Or.inl ⟨by rfl, ?_⟩) ?_ ?_
  rotate_left
  · intro w'
    go_simp
    with_reducible rfl
  rotate_left
  · simp only [Act.put, List.setIfInBounds_toArray, List.set_cons_zero, List.set_cons_succ, i64_w, i32_w]
    rfl
  refine done_ (by kernel_rfl) ?_

  clear HB1
  go_wp2_with (first
    | ((with_reducible refine gate_dst (N := 11) rfl ?_); refine box_event ?hg (N := 11) ?hd (cs := #[.int .i64 0, .int .i64 0]) (t := 54) ?hr ?_; (case hd => rfl); (case hg => rfl); (case hr => first | (go_simp; done) | (go_simp; rfl)); intro q0 hgq0 w5 hA hb; have Jq0 := Aside0.mk hA; have Mq0 := Aside0.mk (show W.heap.size ≤ q0 by have := BW_4.out.size; omega); have BW_5 := Aside0.mk (BW_4.out.trans (hb.mono BW_4.out.size)); clear BW_4; clear hA hb hgq0)
    | ((with_reducible refine gate_store (p := 11) rfl ?_); refine storeRow_event (g := q0) rfl rfl rfl (cs := #[.int .i64 x, .int .i64 (-1)]) rfl rfl Jq0.out (by kernel_rfl) rfl (by simp [Value.oneCell']) ?_; intro w6 hA hb ho hs; have BW_6 := Aside0.mk (hb _ _ Mq0.out BW_5.out); clear BW_5; clear Jq0 Mq0; have BX_6 := Aside0.mk (Below.refl w6.heap.size w6); have Za0 := Aside0.mk (show w6.cell? ⟨q0, 0, none⟩ = some (.int .i64 x) from blk_cell hA 0); have Za1 := Aside0.mk (show w6.cell? ⟨q0, 1, none⟩ = some (.int .i64 (-1)) from blk_cell hA 1); clear hA hb ho hs)
    | (go_at_call 20; (with_reducible refine (section_is 4 _ S4.out (Below.refl w6.heap.size w6)).mono ?_); rintro e w7 ⟨rfl, hb⟩; have BW_7 := Aside0.mk (BW_6.out.trans (hb.mono BW_6.out.size)); clear BW_6; have BX_7 := Aside0.mk (BX_6.out.trans (hb.mono BX_6.out.size)); clear BX_6; clear hb)
    | (go_at_call 13; (with_reducible refine (mod_tab_c E4.out T4.out (tabs_below HT.out BW_7.out)).mono ?_); rintro e w8 ⟨adm, c3, A0, c0, A1, c1, A2, c2, A4, c4, A5, c5, A6, c6, A8, c8, A9, c9, A10, c10, rfl, z0, z1, hb⟩; have BW_8 := Aside0.mk (BW_7.out.trans (hb.mono BW_7.out.size)); clear BW_7; have BX_8 := Aside0.mk (BX_7.out.trans (hb.mono BX_7.out.size)); clear BX_7; have Za0b := Aside0.mk (pw_cell_below BX_8.out Za0.out); clear Za0; have Za0 := Za0b; clear Za0b; have Za1b := Aside0.mk (pw_cell_below BX_8.out Za1.out); clear Za1; have Za1 := Za1b; clear Za1b; clear BX_8; have BX_8 := Aside0.mk (Below.refl w8.heap.size w8); have Zm0 := Aside0.mk (show w8.cell? adm = some (.int .i64 x) from z0); have Zm1 := Aside0.mk (show w8.cell? ⟨adm.block, adm.off + 1, none⟩ = some (.int .i64 (-1)) from z1); clear z0 z1; clear hb)
    | ((with_reducible refine gate_dst (N := 12) rfl ?_); refine box_event ?hg (N := 12) ?hd (cs := #[.slice none 0 0, .slice none 0 0, .slice none 0 0, .slice none 0 0, .slice none 0 0, .slice none 0 0, .slice none 0 0, .int .i64 0, .slice none 0 0, .slice none 0 0, .slice none 0 0]) (t := 33) ?hr ?_; (case hd => rfl); (case hg => rfl); (case hr => first | (go_simp; done) | (go_simp; rfl)); intro q1 hgq1 w9 hA hb; have Jq1 := Aside0.mk hA; have Mq1 := Aside0.mk (show W.heap.size ≤ q1 by have := BW_8.out.size; omega); have MXq1 := Aside0.mk (show w8.heap.size ≤ q1 by have := BX_8.out.size; omega); have BW_9 := Aside0.mk (BW_8.out.trans (hb.mono BW_8.out.size)); clear BW_8; have BX_9 := Aside0.mk (BX_8.out.trans (hb.mono BX_8.out.size)); clear BX_8; clear hA hb hgq1)
    | ((with_reducible refine gate_store (p := 12) rfl ?_); refine storeRow_event (g := q1) rfl rfl rfl (cs := #[.slice A0 mT.types.length c0, .slice A1 mT.imports.length c1, .slice A2 mT.funcs.length c2, .slice (some adm) 1 c3, .slice A4 mT.mems.length c4, .slice A5 mT.globals.length c5, .slice A6 mT.exports.length c6, .int .i64 mT.start, .slice A8 mT.elems.length c8, .slice A9 mT.codes.length c9, .slice A10 mT.datas.length c10]) rfl rfl Jq1.out (by kernel_rfl) rfl (by simp [Value.oneCell']) ?_; intro w10 hA hb ho hs; have BW_10 := Aside0.mk (hb _ _ Mq1.out BW_9.out); clear BW_9; have BX_10 := Aside0.mk (hb _ _ MXq1.out BX_9.out); clear BX_9; clear Jq1 Mq1 MXq1; have Za0b := Aside0.mk (pw_cell_below BX_10.out Za0.out); clear Za0; have Za0 := Za0b; clear Za0b; have Za1b := Aside0.mk (pw_cell_below BX_10.out Za1.out); clear Za1; have Za1 := Za1b; clear Za1b; have Zm0b := Aside0.mk (pw_cell_below BX_10.out Zm0.out); clear Zm0; have Zm0 := Zm0b; clear Zm0b; have Zm1b := Aside0.mk (pw_cell_below BX_10.out Zm1.out); clear Zm1; have Zm1 := Zm1b; clear Zm1b; clear BX_10; have BX_10 := Aside0.mk (Below.refl w10.heap.size w10); have Zq13 := Aside0.mk (show w10.cell? ⟨q1, 3, none⟩ = some (.slice (some adm) 1 c3) from blk_cell hA 3); clear hA hb ho hs)
    | (go_at_call 20; (with_reducible refine (section_is 5 _ S5.out (Below.refl w10.heap.size w10)).mono ?_); rintro e w11 ⟨rfl, hb⟩; have BW_11 := Aside0.mk (BW_10.out.trans (hb.mono BW_10.out.size)); clear BW_10; have BX_11 := Aside0.mk (BX_10.out.trans (hb.mono BX_10.out.size)); clear BX_10; clear hb)
    | (go_at_call 13; (with_reducible refine (mod_mem_c E5.out T5.out (tabs_below HT.out BW_11.out)).mono ?_); rintro e w12 ⟨ado, d4, D0, d0, D1, d1, D2, d2, D3, d3, D5, d5, D6, d6, D8, d8, D9, d9, D10, d10, rfl, z0, z1, hb⟩; have BW_12 := Aside0.mk (BW_11.out.trans (hb.mono BW_11.out.size)); clear BW_11; have BX_12 := Aside0.mk (BX_11.out.trans (hb.mono BX_11.out.size)); clear BX_11; have Za0b := Aside0.mk (pw_cell_below BX_12.out Za0.out); clear Za0; have Za0 := Za0b; clear Za0b; have Za1b := Aside0.mk (pw_cell_below BX_12.out Za1.out); clear Za1; have Za1 := Za1b; clear Za1b; have Zm0b := Aside0.mk (pw_cell_below BX_12.out Zm0.out); clear Zm0; have Zm0 := Zm0b; clear Zm0b; have Zm1b := Aside0.mk (pw_cell_below BX_12.out Zm1.out); clear Zm1; have Zm1 := Zm1b; clear Zm1b; have Zq13b := Aside0.mk (pw_cell_below BX_12.out Zq13.out); clear Zq13; have Zq13 := Zq13b; clear Zq13b; clear BX_12; have BX_12 := Aside0.mk (Below.refl w12.heap.size w12); have Zo0 := Aside0.mk (show w12.cell? ado = some (.int .i64 x) from z0); have Zo1 := Aside0.mk (show w12.cell? ⟨ado.block, ado.off + 1, none⟩ = some (.int .i64 (-1)) from z1); clear z0 z1; clear hb)
    | ((with_reducible refine gate_dst (N := 14) rfl ?_); refine box_event ?hg (N := 14) ?hd (cs := #[.slice none 0 0, .slice none 0 0, .slice none 0 0, .slice none 0 0, .slice none 0 0, .slice none 0 0, .slice none 0 0, .int .i64 0, .slice none 0 0, .slice none 0 0, .slice none 0 0]) (t := 33) ?hr ?_; (case hd => rfl); (case hg => rfl); (case hr => first | (go_simp; done) | (go_simp; rfl)); intro q2 hgq2 w13 hA hb; have Jq2 := Aside0.mk hA; have Mq2 := Aside0.mk (show W.heap.size ≤ q2 by have := BW_12.out.size; omega); have MXq2 := Aside0.mk (show w12.heap.size ≤ q2 by have := BX_12.out.size; omega); have BW_13 := Aside0.mk (BW_12.out.trans (hb.mono BW_12.out.size)); clear BW_12; have BX_13 := Aside0.mk (BX_12.out.trans (hb.mono BX_12.out.size)); clear BX_12; clear hA hb hgq2)
    | ((with_reducible refine gate_store (p := 14) rfl ?_); refine storeRow_event (g := q2) rfl rfl rfl (cs := #[.slice D0 mO.types.length d0, .slice D1 mO.imports.length d1, .slice D2 mO.funcs.length d2, .slice D3 mO.tables.length d3, .slice (some ado) 1 d4, .slice D5 mO.globals.length d5, .slice D6 mO.exports.length d6, .int .i64 mO.start, .slice D8 mO.elems.length d8, .slice D9 mO.codes.length d9, .slice D10 mO.datas.length d10]) rfl rfl Jq2.out (by kernel_rfl) rfl (by simp [Value.oneCell']) ?_; intro w14 hA hb ho hs; have BW_14 := Aside0.mk (hb _ _ Mq2.out BW_13.out); clear BW_13; have BX_14 := Aside0.mk (hb _ _ MXq2.out BX_13.out); clear BX_13; clear Jq2 Mq2 MXq2; have Za0b := Aside0.mk (pw_cell_below BX_14.out Za0.out); clear Za0; have Za0 := Za0b; clear Za0b; have Za1b := Aside0.mk (pw_cell_below BX_14.out Za1.out); clear Za1; have Za1 := Za1b; clear Za1b; have Zm0b := Aside0.mk (pw_cell_below BX_14.out Zm0.out); clear Zm0; have Zm0 := Zm0b; clear Zm0b; have Zm1b := Aside0.mk (pw_cell_below BX_14.out Zm1.out); clear Zm1; have Zm1 := Zm1b; clear Zm1b; have Zq13b := Aside0.mk (pw_cell_below BX_14.out Zq13.out); clear Zq13; have Zq13 := Zq13b; clear Zq13b; have Zo0b := Aside0.mk (pw_cell_below BX_14.out Zo0.out); clear Zo0; have Zo0 := Zo0b; clear Zo0b; have Zo1b := Aside0.mk (pw_cell_below BX_14.out Zo1.out); clear Zo1; have Zo1 := Zo1b; clear Zo1b; clear BX_14; have BX_14 := Aside0.mk (Below.refl w14.heap.size w14); have Zq24 := Aside0.mk (show w14.cell? ⟨q2, 4, none⟩ = some (.slice (some ado) 1 d4) from blk_cell hA 4); clear hA hb ho hs)
    | (go_at_call 20; (with_reducible refine (section_is 4 _ S4b.out (Below.refl w14.heap.size w14)).mono ?_); rintro e w15 ⟨rfl, hb⟩; have BW_15 := Aside0.mk (BW_14.out.trans (hb.mono BW_14.out.size)); clear BW_14; have BX_15 := Aside0.mk (BX_14.out.trans (hb.mono BX_14.out.size)); clear BX_14; clear hb)
    | (go_at_call 13; (with_reducible refine (mod_er_c EB.out (tabs_below HT.out BW_15.out) (Below.refl w15.heap.size w15)).mono ?_); rintro e w16 ⟨rfl, hb⟩; have BW_16 := Aside0.mk (BW_15.out.trans (hb.mono BW_15.out.size)); clear BW_15; have BX_16 := Aside0.mk (BX_15.out.trans (hb.mono BX_15.out.size)); clear BX_15; clear hb)
    | ((with_reducible refine gate_dst (N := 16) rfl ?_); refine box_event ?hg (N := 16) ?hd (cs := #[.slice none 0 0, .slice none 0 0, .slice none 0 0, .slice none 0 0, .slice none 0 0, .slice none 0 0, .slice none 0 0, .int .i64 0, .slice none 0 0, .slice none 0 0, .slice none 0 0]) (t := 33) ?hr ?_; (case hd => rfl); (case hg => rfl); (case hr => first | (go_simp; done) | (go_simp; rfl)); intro q3 hgq3 w17 hA hb; have Jq3 := Aside0.mk hA; have Mq3 := Aside0.mk (show W.heap.size ≤ q3 by have := BW_16.out.size; omega); have MXq3 := Aside0.mk (show w14.heap.size ≤ q3 by have := BX_16.out.size; omega); have BW_17 := Aside0.mk (BW_16.out.trans (hb.mono BW_16.out.size)); clear BW_16; have BX_17 := Aside0.mk (BX_16.out.trans (hb.mono BX_16.out.size)); clear BX_16; clear hA hb hgq3)
    | ((with_reducible refine gate_store (p := 16) rfl ?_); refine storeRow_event (g := q3) rfl rfl rfl (cs := #[.slice none 0 0, .slice none 0 0, .slice none 0 0, .slice none 0 0, .slice none 0 0, .slice none 0 0, .slice none 0 0, .int .i64 0, .slice none 0 0, .slice none 0 0, .slice none 0 0]) rfl rfl Jq3.out (by kernel_rfl) rfl (by simp [Value.oneCell']) ?_; intro w18 hA hb ho hs; have BW_18 := Aside0.mk (hb _ _ Mq3.out BW_17.out); clear BW_17; have BX_18 := Aside0.mk (hb _ _ MXq3.out BX_17.out); clear BX_17; clear Jq3 Mq3 MXq3; clear hA hb ho hs))
  have ya0 : w18.cell? ⟨q0, 0, none⟩ = some (.int .i64 x) := pw_cell_below BX_18.out Za0.out
  have ya1 : w18.cell? ⟨q0, 1, none⟩ = some (.int .i64 (-1)) := pw_cell_below BX_18.out Za1.out
  have ym0 : w18.cell? adm = some (.int .i64 x) := pw_cell_below BX_18.out Zm0.out
  have ym1 : w18.cell? ⟨adm.block, adm.off + 1, none⟩ = some (.int .i64 (-1)) := pw_cell_below BX_18.out Zm1.out
  have yq13 : w18.cell? ⟨q1, 3, none⟩ = some (.slice (some adm) 1 c3) := pw_cell_below BX_18.out Zq13.out
  have yo0 : w18.cell? ado = some (.int .i64 x) := pw_cell_below BX_18.out Zo0.out
  have yo1 : w18.cell? ⟨ado.block, ado.off + 1, none⟩ = some (.int .i64 (-1)) := pw_cell_below BX_18.out Zo1.out
  have yq24 : w18.cell? ⟨q2, 4, none⟩ = some (.slice (some ado) 1 d4) := pw_cell_below BX_18.out Zq24.out
  have BWd : Aside0 (Below W.heap.size W w18.drew) := ⟨below_drew BW_18.out⟩
  have BXd : Aside0 (Below w14.heap.size w14 w18.drew) := ⟨below_drew BX_18.out⟩
  refine start_ (n := 42) (S := fun w' => w'.cell? ⟨q0, 0, none⟩ = some (.int .i64 x) ∧ w'.cell? ⟨q0, 1, none⟩ = some (.int .i64 (-1)) ∧ w'.cell? adm = some (.int .i64 x) ∧ w'.cell? ⟨adm.block, adm.off + 1, none⟩ = some (.int .i64 (-1)) ∧ w'.cell? ⟨q1, 3, none⟩ = some (.slice (some adm) 1 c3) ∧ w'.cell? ado = some (.int .i64 x) ∧ w'.cell? ⟨ado.block, ado.off + 1, none⟩ = some (.int .i64 (-1)) ∧ w'.cell? ⟨q2, 4, none⟩ = some (.slice (some ado) 1 d4)) (ds := []) #[false, false, false, false, false, false, false, false, false, false, false, false, false, false, false, false, false, false, false, false, false, false, false, false, false, false, false, false, false, false, false, false, false, false, false, false, false, false, false, false, false, false] (by kernel_rfl) rfl rfl ⟨ya0, ya1, ym0, ym1, yq13, yo0, yo1, yq24⟩ (fun hHeld => ?_)
  refine pure_ (i := 0) (N := some 77) (v := ?_) (a' := ?_) #[true, false, false, false, false, false, false, false, false, false, false, false, false, false, false, false, false, false, false, false, false, false, false, false, false, false, false, false, false, false, false, false, false, false, false, false, false, false, false, false, false, false] rfl rfl (by kernel_rfl) (fun _ _ _ h => h) (Or.inl ⟨by rfl, ?_⟩) ?_ ?_
  rotate_left
  · intro w'
    go_simp
    with_reducible rfl
  rotate_left
  · simp only [Act.put, List.setIfInBounds_toArray, List.set_cons_zero, List.set_cons_succ, i64_w, i32_w]
    rfl
  refine one_ (i := 1) (N := some 78) #[true, true, false, false, false, false, false, false, false, false, false, false, false, false, false, false, false, false, false, false, false, false, false, false, false, false, false, false, false, false, false, false, false, false, false, false, false, false, false, false, false, false] rfl rfl (by kernel_rfl) (by decide) (fun K hK => ?_)
  refine goes_ Tryd.func14 (by kernel_rfl) rfl #[.int .i64 0] (by rfl) rfl rfl (by simp only [List.map_toArray, List.map_cons, List.map_nil]; rfl) ?_
  with_reducible refine (num_is 0 (Below.refl w18.drew.heap.size w18.drew)).mono ?_
  rintro e v0 ⟨rfl, hb⟩
  refine ⟨_, rfl, ?_⟩
  have BWv0 := Aside0.mk (BWd.out.trans (hb.mono BWd.out.size))
  have BXv0 := Aside0.mk (BXd.out.trans (hb.mono BXd.out.size))
  clear hb BWd BXd
  refine hK.out _ _ ⟨pw_cell_below BXv0.out Za0.out, pw_cell_below BXv0.out Za1.out, pw_cell_below BXv0.out Zm0.out, pw_cell_below BXv0.out Zm1.out, pw_cell_below BXv0.out Zq13.out, pw_cell_below BXv0.out Zo0.out, pw_cell_below BXv0.out Zo1.out, pw_cell_below BXv0.out Zq24.out⟩ (fun hHeld => ?_)
  clear hK K
  refine norm_ (a' := ?_) ?_ ?_
  rotate_left
  · show Act.put _ (some 78) _ = _
    simp only [Act.put, List.setIfInBounds_toArray, List.set_cons_zero, List.set_cons_succ, i64_w, i32_w]
    rfl
  refine pure_ (i := 2) (N := some 79) (v := ?_) (a' := ?_) #[true, true, true, false, false, false, false, false, false, false, false, false, false, false, false, false, false, false, false, false, false, false, false, false, false, false, false, false, false, false, false, false, false, false, false, false, false, false, false, false, false, false] rfl rfl (by kernel_rfl) (fun _ _ _ h => h) (Or.inl ⟨by rfl, ?_⟩) ?_ ?_
  rotate_left
  · intro w'
    go_simp
    with_reducible rfl
  rotate_left
  · simp only [Act.put, List.setIfInBounds_toArray, List.set_cons_zero, List.set_cons_succ, i64_w, i32_w]
    rfl
  refine pure_ (i := 3) (N := some 80) (v := ?_) (a' := ?_) #[true, true, true, true, false, false, false, false, false, false, false, false, false, false, false, false, false, false, false, false, false, false, false, false, false, false, false, false, false, false, false, false, false, false, false, false, false, false, false, false, false, false] rfl rfl (by kernel_rfl) (fun _ _ _ h => h) (Or.inl ⟨by rfl, ?_⟩) ?_ ?_
  rotate_left
  · intro w'
    go_simp
    with_reducible rfl
  rotate_left
  · simp only [Act.put, List.setIfInBounds_toArray, List.set_cons_zero, List.set_cons_succ, i64_w, i32_w]
    rfl
  refine pure_ (i := 4) (N := some 81) (v := ?_) (a' := ?_) #[true, true, true, true, true, false, false, false, false, false, false, false, false, false, false, false, false, false, false, false, false, false, false, false, false, false, false, false, false, false, false, false, false, false, false, false, false, false, false, false, false, false] rfl rfl (by kernel_rfl) (fun _ _ _ h => h) (Or.inl ⟨by rfl, ?_⟩) ?_ ?_
  rotate_left
  · intro w'
    go_simp
    with_reducible rfl
  rotate_left
  · simp only [Act.put, List.setIfInBounds_toArray, List.set_cons_zero, List.set_cons_succ, i64_w, i32_w]
    rfl
  refine take_ (i := 5) (N := some 82) (v := ?_) (a' := ?_) #[true, true, true, true, true, true, false, false, false, false, false, false, false, false, false, false, false, false, false, false, false, false, false, false, false, false, false, false, false, false, false, false, false, false, false, false, false, false, false, false, false, false] rfl rfl (by kernel_rfl) (fun _ _ _ h => h) (Or.inl ⟨by rfl, ?_⟩) hHeld ?_ ?_
  rotate_left
  · rintro w' ⟨s0, s1, s2, s3, s4, s5, s6, s7⟩
    go_simp
    with_reducible rfl
  rotate_left
  · simp only [Act.put, List.setIfInBounds_toArray, List.set_cons_zero, List.set_cons_succ, i64_w, i32_w]
    rfl
  refine pure_ (i := 6) (N := some 83) (v := ?_) (a' := ?_) #[true, true, true, true, true, true, true, false, false, false, false, false, false, false, false, false, false, false, false, false, false, false, false, false, false, false, false, false, false, false, false, false, false, false, false, false, false, false, false, false, false, false] rfl rfl (by kernel_rfl) (fun _ _ _ h => h) (Or.inl ⟨by rfl, ?_⟩) ?_ ?_
  rotate_left
  · intro w'
    go_simp
    with_reducible rfl
  rotate_left
  · simp only [Act.put, List.setIfInBounds_toArray, List.set_cons_zero, List.set_cons_succ, i64_w, i32_w]
    rfl
  refine pure_ (i := 7) (N := some 84) (v := ?_) (a' := ?_) #[true, true, true, true, true, true, true, true, false, false, false, false, false, false, false, false, false, false, false, false, false, false, false, false, false, false, false, false, false, false, false, false, false, false, false, false, false, false, false, false, false, false] rfl rfl (by kernel_rfl) (fun _ _ _ h => h) (Or.inl ⟨by rfl, ?_⟩) ?_ ?_
  rotate_left
  · intro w'
    go_simp
    with_reducible rfl
  rotate_left
  · simp only [Act.put, List.setIfInBounds_toArray, List.set_cons_zero, List.set_cons_succ, i64_w, i32_w]
    rfl
  refine pure_ (i := 8) (N := some 85) (v := ?_) (a' := ?_) #[true, true, true, true, true, true, true, true, true, false, false, false, false, false, false, false, false, false, false, false, false, false, false, false, false, false, false, false, false, false, false, false, false, false, false, false, false, false, false, false, false, false] rfl rfl (by kernel_rfl) (fun _ _ _ h => h) (Or.inl ⟨by rfl, ?_⟩) ?_ ?_
  rotate_left
  · intro w'
    go_simp
    with_reducible rfl
  rotate_left
  · simp only [Act.put, List.setIfInBounds_toArray, List.set_cons_zero, List.set_cons_succ, i64_w, i32_w]
    rfl
  refine pure_ (i := 9) (N := some 86) (v := ?_) (a' := ?_) #[true, true, true, true, true, true, true, true, true, true, false, false, false, false, false, false, false, false, false, false, false, false, false, false, false, false, false, false, false, false, false, false, false, false, false, false, false, false, false, false, false, false] rfl rfl (by kernel_rfl) (fun _ _ _ h => h) (Or.inl ⟨by rfl, ?_⟩) ?_ ?_
  rotate_left
  · intro w'
    go_simp
    with_reducible rfl
  rotate_left
  · simp only [Act.put, List.setIfInBounds_toArray, List.set_cons_zero, List.set_cons_succ, i64_w, i32_w]
    rfl
  refine pure_ (i := 10) (N := some 87) (v := ?_) (a' := ?_) #[true, true, true, true, true, true, true, true, true, true, true, false, false, false, false, false, false, false, false, false, false, false, false, false, false, false, false, false, false, false, false, false, false, false, false, false, false, false, false, false, false, false] rfl rfl (by kernel_rfl) (fun _ _ _ h => h) (Or.inl ⟨by rfl, ?_⟩) ?_ ?_
  rotate_left
  · intro w'
    go_simp
    with_reducible rfl
  rotate_left
  · simp only [Act.put, List.setIfInBounds_toArray, List.set_cons_zero, List.set_cons_succ, i64_w, i32_w]
    rfl
  refine take_ (i := 11) (N := some 88) (v := ?_) (a' := ?_) #[true, true, true, true, true, true, true, true, true, true, true, true, false, false, false, false, false, false, false, false, false, false, false, false, false, false, false, false, false, false, false, false, false, false, false, false, false, false, false, false, false, false] rfl rfl (by kernel_rfl) (fun _ _ _ h => h) (Or.inl ⟨by rfl, ?_⟩) hHeld ?_ ?_
  rotate_left
  · rintro w' ⟨s0, s1, s2, s3, s4, s5, s6, s7⟩
    go_simp
    with_reducible rfl
  rotate_left
  · simp only [Act.put, List.setIfInBounds_toArray, List.set_cons_zero, List.set_cons_succ, i64_w, i32_w]
    rfl
  refine pure_ (i := 12) (N := some 89) (v := ?_) (a' := ?_) #[true, true, true, true, true, true, true, true, true, true, true, true, true, false, false, false, false, false, false, false, false, false, false, false, false, false, false, false, false, false, false, false, false, false, false, false, false, false, false, false, false, false] rfl rfl (by kernel_rfl) (fun _ _ _ h => h) (Or.inl ⟨by rfl, ?_⟩) ?_ ?_
  rotate_left
  · intro w'
    go_simp
    with_reducible rfl
  rotate_left
  · simp only [Act.put, List.setIfInBounds_toArray, List.set_cons_zero, List.set_cons_succ, i64_w, i32_w]
    rfl
  refine take_ (i := 13) (N := some 90) (v := ?_) (a' := ?_) #[true, true, true, true, true, true, true, true, true, true, true, true, true, true, false, false, false, false, false, false, false, false, false, false, false, false, false, false, false, false, false, false, false, false, false, false, false, false, false, false, false, false] rfl rfl (by kernel_rfl) (fun _ _ _ h => h) (Or.inl ⟨by rfl, ?_⟩) hHeld ?_ ?_
  rotate_left
  · rintro w' ⟨s0, s1, s2, s3, s4, s5, s6, s7⟩
    go_simp
    with_reducible rfl
  rotate_left
  · simp only [Act.put, List.setIfInBounds_toArray, List.set_cons_zero, List.set_cons_succ, i64_w, i32_w]
    rfl
  refine take_ (i := 14) (N := some 91) (v := ?_) (a' := ?_) #[true, true, true, true, true, true, true, true, true, true, true, true, true, true, true, false, false, false, false, false, false, false, false, false, false, false, false, false, false, false, false, false, false, false, false, false, false, false, false, false, false, false] rfl rfl (by kernel_rfl) (fun _ _ _ h => h) (Or.inl ⟨by rfl, ?_⟩) hHeld ?_ ?_
  rotate_left
  · rintro w' ⟨s0, s1, s2, s3, s4, s5, s6, s7⟩
    go_simp
    with_reducible rfl
  rotate_left
  · simp only [Act.put, List.setIfInBounds_toArray, List.set_cons_zero, List.set_cons_succ, i64_w, i32_w]
    rfl
  refine pure_ (i := 15) (N := some 92) (v := ?_) (a' := ?_) #[true, true, true, true, true, true, true, true, true, true, true, true, true, true, true, true, false, false, false, false, false, false, false, false, false, false, false, false, false, false, false, false, false, false, false, false, false, false, false, false, false, false] rfl rfl (by kernel_rfl) (fun _ _ _ h => h) (Or.inl ⟨by rfl, ?_⟩) ?_ ?_
  rotate_left
  · intro w'
    go_simp
    with_reducible rfl
  rotate_left
  · simp only [Act.put, List.setIfInBounds_toArray, List.set_cons_zero, List.set_cons_succ, i64_w, i32_w]
    rfl
  refine pure_ (i := 16) (N := some 93) (v := ?_) (a' := ?_) #[true, true, true, true, true, true, true, true, true, true, true, true, true, true, true, true, true, false, false, false, false, false, false, false, false, false, false, false, false, false, false, false, false, false, false, false, false, false, false, false, false, false] rfl rfl (by kernel_rfl) (fun _ _ _ h => h) (Or.inl ⟨by rfl, ?_⟩) ?_ ?_
  rotate_left
  · intro w'
    go_simp
    with_reducible rfl
  rotate_left
  · simp only [Act.put, List.setIfInBounds_toArray, List.set_cons_zero, List.set_cons_succ, i64_w, i32_w]
    rfl
  refine pure_ (i := 17) (N := some 94) (v := ?_) (a' := ?_) #[true, true, true, true, true, true, true, true, true, true, true, true, true, true, true, true, true, true, false, false, false, false, false, false, false, false, false, false, false, false, false, false, false, false, false, false, false, false, false, false, false, false] rfl rfl (by kernel_rfl) (fun _ _ _ h => h) (Or.inl ⟨by rfl, ?_⟩) ?_ ?_
  rotate_left
  · intro w'
    go_simp
    with_reducible rfl
  rotate_left
  · simp only [Act.put, List.setIfInBounds_toArray, List.set_cons_zero, List.set_cons_succ, i64_w, i32_w]
    rfl
  refine pure_ (i := 18) (N := some 95) (v := ?_) (a' := ?_) #[true, true, true, true, true, true, true, true, true, true, true, true, true, true, true, true, true, true, true, false, false, false, false, false, false, false, false, false, false, false, false, false, false, false, false, false, false, false, false, false, false, false] rfl rfl (by kernel_rfl) (fun _ _ _ h => h) (Or.inl ⟨by rfl, ?_⟩) ?_ ?_
  rotate_left
  · intro w'
    go_simp
    with_reducible rfl
  rotate_left
  · simp only [Act.put, List.setIfInBounds_toArray, List.set_cons_zero, List.set_cons_succ, i64_w, i32_w]
    rfl
  refine one_ (i := 19) (N := some 96) #[true, true, true, true, true, true, true, true, true, true, true, true, true, true, true, true, true, true, true, true, false, false, false, false, false, false, false, false, false, false, false, false, false, false, false, false, false, false, false, false, false, false] rfl rfl (by kernel_rfl) (by decide) (fun K hK => ?_)
  refine goes_ Tryd.func14 (by kernel_rfl) rfl #[.int .i64 0] (by rfl) rfl rfl (by simp only [List.map_toArray, List.map_cons, List.map_nil]; rfl) ?_
  with_reducible refine (num_is 0 (Below.refl v0.heap.size v0)).mono ?_
  rintro e v1 ⟨rfl, hb⟩
  refine ⟨_, rfl, ?_⟩
  have BWv1 := Aside0.mk (BWv0.out.trans (hb.mono BWv0.out.size))
  have BXv1 := Aside0.mk (BXv0.out.trans (hb.mono BXv0.out.size))
  clear hb BWv0 BXv0
  refine hK.out _ _ ⟨pw_cell_below BXv1.out Za0.out, pw_cell_below BXv1.out Za1.out, pw_cell_below BXv1.out Zm0.out, pw_cell_below BXv1.out Zm1.out, pw_cell_below BXv1.out Zq13.out, pw_cell_below BXv1.out Zo0.out, pw_cell_below BXv1.out Zo1.out, pw_cell_below BXv1.out Zq24.out⟩ (fun hHeld => ?_)
  clear hK K
  refine norm_ (a' := ?_) ?_ ?_
  rotate_left
  · show Act.put _ (some 96) _ = _
    simp only [Act.put, List.setIfInBounds_toArray, List.set_cons_zero, List.set_cons_succ, i64_w, i32_w]
    rfl
  refine pure_ (i := 20) (N := some 97) (v := ?_) (a' := ?_) #[true, true, true, true, true, true, true, true, true, true, true, true, true, true, true, true, true, true, true, true, true, false, false, false, false, false, false, false, false, false, false, false, false, false, false, false, false, false, false, false, false, false] rfl rfl (by kernel_rfl) (fun _ _ _ h => h) (Or.inl ⟨by rfl, ?_⟩) ?_ ?_
  rotate_left
  · intro w'
    go_simp
    with_reducible rfl
  rotate_left
  · simp only [Act.put, List.setIfInBounds_toArray, List.set_cons_zero, List.set_cons_succ, i64_w, i32_w]
    rfl
  refine pure_ (i := 21) (N := some 98) (v := ?_) (a' := ?_) #[true, true, true, true, true, true, true, true, true, true, true, true, true, true, true, true, true, true, true, true, true, true, false, false, false, false, false, false, false, false, false, false, false, false, false, false, false, false, false, false, false, false] rfl rfl (by kernel_rfl) (fun _ _ _ h => h) (Or.inl ⟨by rfl, ?_⟩) ?_ ?_
  rotate_left
  · intro w'
    go_simp
    with_reducible rfl
  rotate_left
  · simp only [Act.put, List.setIfInBounds_toArray, List.set_cons_zero, List.set_cons_succ, i64_w, i32_w]
    rfl
  refine pure_ (i := 22) (N := some 99) (v := ?_) (a' := ?_) #[true, true, true, true, true, true, true, true, true, true, true, true, true, true, true, true, true, true, true, true, true, true, true, false, false, false, false, false, false, false, false, false, false, false, false, false, false, false, false, false, false, false] rfl rfl (by kernel_rfl) (fun _ _ _ h => h) (Or.inl ⟨by rfl, ?_⟩) ?_ ?_
  rotate_left
  · intro w'
    go_simp
    with_reducible rfl
  rotate_left
  · simp only [Act.put, List.setIfInBounds_toArray, List.set_cons_zero, List.set_cons_succ, i64_w, i32_w]
    rfl
  refine pure_ (i := 23) (N := some 100) (v := ?_) (a' := ?_) #[true, true, true, true, true, true, true, true, true, true, true, true, true, true, true, true, true, true, true, true, true, true, true, true, false, false, false, false, false, false, false, false, false, false, false, false, false, false, false, false, false, false] rfl rfl (by kernel_rfl) (fun _ _ _ h => h) (Or.inl ⟨by rfl, ?_⟩) ?_ ?_
  rotate_left
  · intro w'
    go_simp
    with_reducible rfl
  rotate_left
  · simp only [Act.put, List.setIfInBounds_toArray, List.set_cons_zero, List.set_cons_succ, i64_w, i32_w]
    rfl
  refine take_ (i := 24) (N := some 101) (v := ?_) (a' := ?_) #[true, true, true, true, true, true, true, true, true, true, true, true, true, true, true, true, true, true, true, true, true, true, true, true, true, false, false, false, false, false, false, false, false, false, false, false, false, false, false, false, false, false] rfl rfl (by kernel_rfl) (fun _ _ _ h => h) (Or.inl ⟨by rfl, ?_⟩) hHeld ?_ ?_
  rotate_left
  · rintro w' ⟨s0, s1, s2, s3, s4, s5, s6, s7⟩
    go_simp
    with_reducible rfl
  rotate_left
  · simp only [Act.put, List.setIfInBounds_toArray, List.set_cons_zero, List.set_cons_succ, i64_w, i32_w]
    rfl
  refine pure_ (i := 25) (N := some 102) (v := ?_) (a' := ?_) #[true, true, true, true, true, true, true, true, true, true, true, true, true, true, true, true, true, true, true, true, true, true, true, true, true, true, false, false, false, false, false, false, false, false, false, false, false, false, false, false, false, false] rfl rfl (by kernel_rfl) (fun _ _ _ h => h) (Or.inl ⟨by rfl, ?_⟩) ?_ ?_
  rotate_left
  · intro w'
    go_simp
    with_reducible rfl
  rotate_left
  · simp only [Act.put, List.setIfInBounds_toArray, List.set_cons_zero, List.set_cons_succ, i64_w, i32_w]
    rfl
  refine pure_ (i := 26) (N := some 103) (v := ?_) (a' := ?_) #[true, true, true, true, true, true, true, true, true, true, true, true, true, true, true, true, true, true, true, true, true, true, true, true, true, true, true, false, false, false, false, false, false, false, false, false, false, false, false, false, false, false] rfl rfl (by kernel_rfl) (fun _ _ _ h => h) (Or.inl ⟨by rfl, ?_⟩) ?_ ?_
  rotate_left
  · intro w'
    go_simp
    with_reducible rfl
  rotate_left
  · simp only [Act.put, List.setIfInBounds_toArray, List.set_cons_zero, List.set_cons_succ, i64_w, i32_w]
    rfl
  refine pure_ (i := 27) (N := some 104) (v := ?_) (a' := ?_) #[true, true, true, true, true, true, true, true, true, true, true, true, true, true, true, true, true, true, true, true, true, true, true, true, true, true, true, true, false, false, false, false, false, false, false, false, false, false, false, false, false, false] rfl rfl (by kernel_rfl) (fun _ _ _ h => h) (Or.inl ⟨by rfl, ?_⟩) ?_ ?_
  rotate_left
  · intro w'
    go_simp
    with_reducible rfl
  rotate_left
  · simp only [Act.put, List.setIfInBounds_toArray, List.set_cons_zero, List.set_cons_succ, i64_w, i32_w]
    rfl
  refine pure_ (i := 28) (N := some 105) (v := ?_) (a' := ?_) #[true, true, true, true, true, true, true, true, true, true, true, true, true, true, true, true, true, true, true, true, true, true, true, true, true, true, true, true, true, false, false, false, false, false, false, false, false, false, false, false, false, false] rfl rfl (by kernel_rfl) (fun _ _ _ h => h) (Or.inl ⟨by rfl, ?_⟩) ?_ ?_
  rotate_left
  · intro w'
    go_simp
    with_reducible rfl
  rotate_left
  · simp only [Act.put, List.setIfInBounds_toArray, List.set_cons_zero, List.set_cons_succ, i64_w, i32_w]
    rfl
  refine pure_ (i := 29) (N := some 106) (v := ?_) (a' := ?_) #[true, true, true, true, true, true, true, true, true, true, true, true, true, true, true, true, true, true, true, true, true, true, true, true, true, true, true, true, true, true, false, false, false, false, false, false, false, false, false, false, false, false] rfl rfl (by kernel_rfl) (fun _ _ _ h => h) (Or.inl ⟨by rfl, ?_⟩) ?_ ?_
  rotate_left
  · intro w'
    go_simp
    with_reducible rfl
  rotate_left
  · simp only [Act.put, List.setIfInBounds_toArray, List.set_cons_zero, List.set_cons_succ, i64_w, i32_w]
    rfl
  refine take_ (i := 30) (N := some 107) (v := ?_) (a' := ?_) #[true, true, true, true, true, true, true, true, true, true, true, true, true, true, true, true, true, true, true, true, true, true, true, true, true, true, true, true, true, true, true, false, false, false, false, false, false, false, false, false, false, false] rfl rfl (by kernel_rfl) (fun _ _ _ h => h) (Or.inl ⟨by rfl, ?_⟩) hHeld ?_ ?_
  rotate_left
  · rintro w' ⟨s0, s1, s2, s3, s4, s5, s6, s7⟩
    go_simp
    with_reducible rfl
  rotate_left
  · simp only [Act.put, List.setIfInBounds_toArray, List.set_cons_zero, List.set_cons_succ, i64_w, i32_w]
    rfl
  refine pure_ (i := 31) (N := some 108) (v := ?_) (a' := ?_) #[true, true, true, true, true, true, true, true, true, true, true, true, true, true, true, true, true, true, true, true, true, true, true, true, true, true, true, true, true, true, true, true, false, false, false, false, false, false, false, false, false, false] rfl rfl (by kernel_rfl) (fun _ _ _ h => h) (Or.inl ⟨by rfl, ?_⟩) ?_ ?_
  rotate_left
  · intro w'
    go_simp
    with_reducible rfl
  rotate_left
  · simp only [Act.put, List.setIfInBounds_toArray, List.set_cons_zero, List.set_cons_succ, i64_w, i32_w]
    rfl
  refine take_ (i := 32) (N := some 109) (v := ?_) (a' := ?_) #[true, true, true, true, true, true, true, true, true, true, true, true, true, true, true, true, true, true, true, true, true, true, true, true, true, true, true, true, true, true, true, true, true, false, false, false, false, false, false, false, false, false] rfl rfl (by kernel_rfl) (fun _ _ _ h => h) (Or.inl ⟨by rfl, ?_⟩) hHeld ?_ ?_
  rotate_left
  · rintro w' ⟨s0, s1, s2, s3, s4, s5, s6, s7⟩
    go_simp
    with_reducible rfl
  rotate_left
  · simp only [Act.put, List.setIfInBounds_toArray, List.set_cons_zero, List.set_cons_succ, i64_w, i32_w]
    rfl
  refine take_ (i := 33) (N := some 110) (v := ?_) (a' := ?_) #[true, true, true, true, true, true, true, true, true, true, true, true, true, true, true, true, true, true, true, true, true, true, true, true, true, true, true, true, true, true, true, true, true, true, false, false, false, false, false, false, false, false] rfl rfl (by kernel_rfl) (fun _ _ _ h => h) (Or.inl ⟨by rfl, ?_⟩) hHeld ?_ ?_
  rotate_left
  · rintro w' ⟨s0, s1, s2, s3, s4, s5, s6, s7⟩
    go_simp
    with_reducible rfl
  rotate_left
  · simp only [Act.put, List.setIfInBounds_toArray, List.set_cons_zero, List.set_cons_succ, i64_w, i32_w]
    rfl
  refine pure_ (i := 34) (N := some 111) (v := ?_) (a' := ?_) #[true, true, true, true, true, true, true, true, true, true, true, true, true, true, true, true, true, true, true, true, true, true, true, true, true, true, true, true, true, true, true, true, true, true, true, false, false, false, false, false, false, false] rfl rfl (by kernel_rfl) (fun _ _ _ h => h) (Or.inl ⟨by rfl, ?_⟩) ?_ ?_
  rotate_left
  · intro w'
    go_simp
    with_reducible rfl
  rotate_left
  · simp only [Act.put, List.setIfInBounds_toArray, List.set_cons_zero, List.set_cons_succ, i64_w, i32_w]
    rfl
  refine pure_ (i := 35) (N := some 112) (v := ?_) (a' := ?_) #[true, true, true, true, true, true, true, true, true, true, true, true, true, true, true, true, true, true, true, true, true, true, true, true, true, true, true, true, true, true, true, true, true, true, true, true, false, false, false, false, false, false] rfl rfl (by kernel_rfl) (fun _ _ _ h => h) (Or.inl ⟨by rfl, ?_⟩) ?_ ?_
  rotate_left
  · intro w'
    go_simp
    with_reducible rfl
  rotate_left
  · simp only [Act.put, List.setIfInBounds_toArray, List.set_cons_zero, List.set_cons_succ, i64_w, i32_w]
    rfl
  refine pure_ (i := 36) (N := some 113) (v := ?_) (a' := ?_) #[true, true, true, true, true, true, true, true, true, true, true, true, true, true, true, true, true, true, true, true, true, true, true, true, true, true, true, true, true, true, true, true, true, true, true, true, true, false, false, false, false, false] rfl rfl (by kernel_rfl) (fun _ _ _ h => h) (Or.inl ⟨by rfl, ?_⟩) ?_ ?_
  rotate_left
  · intro w'
    go_simp
    with_reducible rfl
  rotate_left
  · simp only [Act.put, List.setIfInBounds_toArray, List.set_cons_zero, List.set_cons_succ, i64_w, i32_w]
    rfl
  refine pure_ (i := 37) (N := some 114) (v := ?_) (a' := ?_) #[true, true, true, true, true, true, true, true, true, true, true, true, true, true, true, true, true, true, true, true, true, true, true, true, true, true, true, true, true, true, true, true, true, true, true, true, true, true, false, false, false, false] rfl rfl (by kernel_rfl) (fun _ _ _ h => h) (Or.inl ⟨by rfl, ?_⟩) ?_ ?_
  rotate_left
  · intro w'
    go_simp
    with_reducible rfl
  rotate_left
  · simp only [Act.put, List.setIfInBounds_toArray, List.set_cons_zero, List.set_cons_succ, i64_w, i32_w]
    rfl
  refine one_ (i := 38) (N := some 115) #[true, true, true, true, true, true, true, true, true, true, true, true, true, true, true, true, true, true, true, true, true, true, true, true, true, true, true, true, true, true, true, true, true, true, true, true, true, true, true, false, false, false] rfl rfl (by kernel_rfl) (by decide) (fun K hK => ?_)
  refine goes_ Tryd.func14 (by kernel_rfl) rfl #[.int .i64 1506] (by rfl) rfl rfl (by simp only [List.map_toArray, List.map_cons, List.map_nil]; rfl) ?_
  with_reducible refine (num_is 1506 (Below.refl v1.heap.size v1)).mono ?_
  rintro e v2 ⟨rfl, hb⟩
  refine ⟨_, rfl, ?_⟩
  have BWv2 := Aside0.mk (BWv1.out.trans (hb.mono BWv1.out.size))
  have BXv2 := Aside0.mk (BXv1.out.trans (hb.mono BXv1.out.size))
  clear hb BWv1 BXv1
  refine hK.out _ _ ⟨pw_cell_below BXv2.out Za0.out, pw_cell_below BXv2.out Za1.out, pw_cell_below BXv2.out Zm0.out, pw_cell_below BXv2.out Zm1.out, pw_cell_below BXv2.out Zq13.out, pw_cell_below BXv2.out Zo0.out, pw_cell_below BXv2.out Zo1.out, pw_cell_below BXv2.out Zq24.out⟩ (fun hHeld => ?_)
  clear hK K
  refine norm_ (a' := ?_) ?_ ?_
  rotate_left
  · show Act.put _ (some 115) _ = _
    simp only [Act.put, List.setIfInBounds_toArray, List.set_cons_zero, List.set_cons_succ, i64_w, i32_w]
    rfl
  refine pure_ (i := 39) (N := some 116) (v := ?_) (a' := ?_) #[true, true, true, true, true, true, true, true, true, true, true, true, true, true, true, true, true, true, true, true, true, true, true, true, true, true, true, true, true, true, true, true, true, true, true, true, true, true, true, true, false, false] rfl rfl (by kernel_rfl) (fun _ _ _ h => h) (Or.inl ⟨by rfl, ?_⟩) ?_ ?_
  rotate_left
  · intro w'
    go_simp
    with_reducible rfl
  rotate_left
  · simp only [Act.put, List.setIfInBounds_toArray, List.set_cons_zero, List.set_cons_succ, i64_w, i32_w]
    rfl
  refine pure_ (i := 40) (N := some 117) (v := ?_) (a' := ?_) #[true, true, true, true, true, true, true, true, true, true, true, true, true, true, true, true, true, true, true, true, true, true, true, true, true, true, true, true, true, true, true, true, true, true, true, true, true, true, true, true, true, false] rfl rfl (by kernel_rfl) (fun _ _ _ h => h) (Or.inl ⟨by rfl, ?_⟩) ?_ ?_
  rotate_left
  · intro w'
    go_simp
    with_reducible rfl
  rotate_left
  · simp only [Act.put, List.setIfInBounds_toArray, List.set_cons_zero, List.set_cons_succ, i64_w, i32_w]
    rfl
  refine pure_ (i := 41) (N := some 6) (v := ?_) (a' := ?_) #[true, true, true, true, true, true, true, true, true, true, true, true, true, true, true, true, true, true, true, true, true, true, true, true, true, true, true, true, true, true, true, true, true, true, true, true, true, true, true, true, true, true] rfl rfl (by kernel_rfl) (fun _ _ _ h => h) (Or.inl ⟨by rfl, ?_⟩) ?_ ?_
  rotate_left
  · intro w'
    go_simp
    with_reducible rfl
  rotate_left
  · simp only [Act.put, List.setIfInBounds_toArray, List.set_cons_zero, List.set_cons_succ, i64_w, i32_w]
    rfl
  refine done_ (by kernel_rfl) ?_

  go_wp2
  go_ret
  exact ⟨rfl, BWv2.out⟩
set_option maxHeartbeats 8000000 in
set_option maxRecDepth 100000 in
theorem limits_one (a0 a1 a2 : Int) (x y : Int) (hx : Go.bits .and .i64 a0 4294967295 = x) (hy : Go.bits .and .i64 a1 4294967295 = y) (ef : Go.bits .and .i64 a2 3 % 256 = 1) (rx : 0 ≤ x ∧ x < 4294967296) (ry : 0 ≤ y ∧ y < 4294967296) (W : World) (hT : Tabs W) : Calls Tryd.prog 7 #[.int .i64 a0, .int .i64 a1, .int .i64 a2] W fun e w' => e = .returned (.bool true) ∧ Below W.heap.size W w' := by
  have HT := Aside0.mk hT
  have HB0 := Aside0.mk (Below.refl W.heap.size W)
  have zx := lebS_size x
  have zy := lebS_size y
  have s1 : (strOfNums [1]).size = 1 := str_size _
  have eS : limS 1 x y = (strOfNums [1] ++ lebS x ++ lebS y) := by rw [limS, if_pos rfl]
  have zS := (limS_size 1 x y).1
  rw [eS] at zS
  have t2 : (⟨#[1, 112]⟩ : ByteArray).size = 2 := rfl
  have t3 : (⟨#[1, 113]⟩ : ByteArray).size = 2 := rfl
  have t4 : (⟨#[1]⟩ : ByteArray).size = 1 := rfl
  have S4 := Aside0.mk (show ((⟨#[1, 112]⟩ : ByteArray) ++ (strOfNums [1] ++ lebS x ++ lebS y)).size ≤ 140737488355328 by rw [ByteArray.size_append]; omega)
  have S5 := Aside0.mk (show ((⟨#[1]⟩ : ByteArray) ++ (strOfNums [1] ++ lebS x ++ lebS y)).size ≤ 140737488355328 by rw [ByteArray.size_append]; omega)
  have S4b := Aside0.mk (show ((⟨#[1, 113]⟩ : ByteArray) ++ (strOfNums [1] ++ lebS x ++ lebS y)).size ≤ 140737488355328 by rw [ByteArray.size_append]; omega)
  have e4 := limT_ok (f := 1) (.inr rfl) rx ry
  rw [tab_lim, eS] at e4
  have e5 := limM_ok (f := 1) (.inr rfl) rx ry
  rw [memS, eS] at e5
  have eb := limT_er (b := 113) (f := 1) (x := x) (y := y) (by omega) (by omega) (by omega)
  rw [tab_bad, eS] at eb
  obtain ⟨mT, hmT⟩ : ∃ mT : Mod, mT = { m0 with tables := [limV 1 x y] } := ⟨_, rfl⟩
  obtain ⟨mO, hmO⟩ : ∃ mO : Mod, mO = { m0 with mems := [limV 1 x y] } := ⟨_, rfl⟩
  rw [← hmT] at e4
  rw [← hmO] at e5
  have T4 := Aside0.mk (show mT.tables = [⟨x, y⟩] by rw [hmT]; simp [limV])
  have T5 := Aside0.mk (show mO.mems = [⟨x, y⟩] by rw [hmO]; simp [limV])
  clear hmT hmO
  have E4 := Aside0.mk e4
  have E5 := Aside0.mk e5
  have EB := Aside0.mk eb
  have z4 := secS_size 4 ((⟨#[1, 112]⟩ : ByteArray) ++ (strOfNums [1] ++ lebS x ++ lebS y))
  have z5 := secS_size 5 ((⟨#[1]⟩ : ByteArray) ++ (strOfNums [1] ++ lebS x ++ lebS y))
  have z6 := secS_size 4 ((⟨#[1, 113]⟩ : ByteArray) ++ (strOfNums [1] ++ lebS x ++ lebS y))
  rw [ByteArray.size_append] at z4 z5 z6
  have n0 := sum_ok (a := (strOfNums [1]).size) (b := (lebS x).size) (by omega)
  have n1 : ¬ 9223372036854775807 < (strOfNums [1]).size + (lebS x).size + (lebS y).size := by omega
  have n1' : ¬ 9223372036854775807 < (strOfNums [1] ++ lebS x).size + (lebS y).size := by rw [ByteArray.size_append]; omega
  have n2 := sum_ok (a := 2) (b := ((strOfNums [1] ++ lebS x ++ lebS y)).size) (by omega)
  have n3 := sum_ok (a := 1) (b := ((strOfNums [1] ++ lebS x ++ lebS y)).size) (by omega)
  have n4 := sum_ok (a := 8) (b := (secS 4 ((⟨#[1, 112]⟩ : ByteArray) ++ (strOfNums [1] ++ lebS x ++ lebS y))).size) (by omega)
  have n5 := sum_ok (a := 8) (b := (secS 5 ((⟨#[1]⟩ : ByteArray) ++ (strOfNums [1] ++ lebS x ++ lebS y))).size) (by omega)
  have n6 := sum_ok (a := 8) (b := (secS 4 ((⟨#[1, 113]⟩ : ByteArray) ++ (strOfNums [1] ++ lebS x ++ lebS y))).size) (by omega)
  have n2' := n2
  have n3' := n3
  simp only [ByteArray.size_append] at n2' n3'
  clear e4 e5 eb zx zy zS z4 z5 z6 t2 t3 t4 rx ry hT eS s1
  go_enter Tryd.func7, Tryd.ntmps7
  go_wp2_with (first
    | (go_at_call 12; (with_reducible refine (awake_c HT.out HB0.out).mono ?_); rintro e w1 ⟨rfl, hb⟩; have HB1 := Aside0.mk hb; clear hb HB0))
  obtain ⟨WD, hWD⟩ : ∃ WD, WD = w1 := ⟨_, rfl⟩
  subst hWD
  have HR0 : Aside0 (Below W.heap.size W WD.drew) := ⟨below_drew HB1.out⟩
  refine start_ (n := 7) (S := fun w' => True) (ds := []) #[false, false, false, false, false, false, false] (by kernel_rfl) rfl rfl trivial (fun hHeld => ?_)
  refine pure_ (i := 0) (N := some 27) (v := ?_) (a' := ?_) #[true, false, false, false, false, false, false] rfl rfl (by kernel_rfl) (fun _ _ _ h => h) (Or.inl ⟨by rfl, ?_⟩) ?_ ?_
  rotate_left
  · intro w'
    go_simp
    with_reducible rfl
  rotate_left
  · simp only [Act.put, List.setIfInBounds_toArray, List.set_cons_zero, List.set_cons_succ, i64_w, i32_w]
    rfl
  refine pure_ (i := 3) (N := some 30) (v := ?_) (a' := ?_) #[true, false, false, true, false, false, false] rfl rfl (by kernel_rfl) (fun _ _ _ h => h) (Or.inl ⟨by rfl, ?_⟩) ?_ ?_
  rotate_left
  · intro w'
    go_simp
    with_reducible rfl
  rotate_left
  · simp only [Act.put, List.setIfInBounds_toArray, List.set_cons_zero, List.set_cons_succ, i64_w, i32_w]
    rfl
  refine join_ (σ := Value) 2 #[true, true, true, true, true, false, false] (fun s => [(28, s), (29, .string (strOfNums [1])), (31, .string (lebS x))]) (fun s W1 => Below W.heap.size W W1) ?_ ?_
  rotate_left
  · intro hCont
    refine two_ (i := 1) (j := 4) (Ni := some 28) (Nj := some 31) #[true, true, false, true, false, false, false] #[true, false, false, true, true, false, false] rfl rfl rfl rfl (by kernel_rfl) (by decide) (by decide) (fun K hK => ?_) (fun K hK => ?_)
    · skip
      refine lit_step ?hw (N := 28) ?hd (cs := #[.int .u8 1]) (t := 5) (n := 1) ?hr ?_
      case hw => rfl
      case hd => rfl
      case hr => first | (go_simp; done) | (go_simp; rfl)
      intro g hg wr1 hA hb
      have G1 := Aside0.mk hA
      have HR1 := Aside0.mk (below_step HR0.out hb)
      clear hA hb hg HR0
      refine hK.out _ _ trivial (fun hHeld => ?_)
      clear hK K
      refine norm_ (a' := ?_) ?_ ?_
      rotate_left
      · show Act.put _ (some 28) _ = _
        simp only [Act.put, List.setIfInBounds_toArray, List.set_cons_zero, List.set_cons_succ, i64_w, i32_w]
        rfl
      refine two_ (i := 2) (j := 4) (Ni := some 29) (Nj := some 31) #[true, true, true, true, false, false, false] #[true, true, false, true, true, false, false] rfl rfl rfl rfl (by kernel_rfl) (by decide) (by decide) (fun K hK => ?_) (fun K hK => ?_)
      · skip
        refine value_ (w1 := wr1) (v := .string (strOfNums [1])) (by rfl) rfl ?_ ?_
        · exact conv1 (1) G1.out (by rfl)
        refine hK.out _ _ trivial (fun hHeld => ?_)
        clear hK K
        refine norm_ (a' := ?_) ?_ ?_
        rotate_left
        · show Act.put _ (some 29) _ = _
          simp only [Act.put, List.setIfInBounds_toArray, List.set_cons_zero, List.set_cons_succ, i64_w, i32_w]
          rfl
        refine one_ (i := 4) (N := some 31) #[true, true, true, true, true, false, false] rfl rfl (by kernel_rfl) (by decide) (fun K hK => ?_)
        refine goes_ Tryd.func17 (by kernel_rfl) rfl #[.int .i64 x] (by rfl) rfl rfl (by simp only [List.map_toArray, List.map_cons, List.map_nil]; rfl) ?_
        with_reducible refine (leb_is _ (Below.refl wr1.heap.size wr1)).mono ?_
        rintro e wr2 ⟨rfl, hb⟩
        refine ⟨_, rfl, ?_⟩
        have HR2 := Aside0.mk (below_step HR1.out hb)
        have G1b := Aside0.mk (blk_below G1.out hb)
        clear G1
        have G1 := G1b
        clear G1b
        clear hb HR1
        refine hK.out _ _ trivial (fun hHeld => ?_)
        clear hK K
        refine norm_ (a' := ?_) ?_ ?_
        rotate_left
        · show Act.put _ (some 31) _ = _
          simp only [Act.put, List.setIfInBounds_toArray, List.set_cons_zero, List.set_cons_succ, i64_w, i32_w]
          rfl
        exact norm_ (by simp only [putAll, Act.put, List.setIfInBounds_toArray, List.set_cons_zero, List.set_cons_succ]) (hCont (.slice (some ⟨g, 0, none⟩) 1 1) _ HR2.out)
      · skip
        refine goes_ Tryd.func17 (by kernel_rfl) rfl #[.int .i64 x] (by rfl) rfl rfl (by simp only [List.map_toArray, List.map_cons, List.map_nil]; rfl) ?_
        with_reducible refine (leb_is _ (Below.refl wr1.heap.size wr1)).mono ?_
        rintro e wr2 ⟨rfl, hb⟩
        refine ⟨_, rfl, ?_⟩
        have HR2 := Aside0.mk (below_step HR1.out hb)
        have G1b := Aside0.mk (blk_below G1.out hb)
        clear G1
        have G1 := G1b
        clear G1b
        clear hb HR1
        refine hK.out _ _ trivial (fun hHeld => ?_)
        clear hK K
        refine norm_ (a' := ?_) ?_ ?_
        rotate_left
        · show Act.put _ (some 31) _ = _
          simp only [Act.put, List.setIfInBounds_toArray, List.set_cons_zero, List.set_cons_succ, i64_w, i32_w]
          rfl
        refine one_ (i := 2) (N := some 29) #[true, true, true, true, true, false, false] rfl rfl (by kernel_rfl) (by decide) (fun K hK => ?_)
        refine value_ (w1 := wr2) (v := .string (strOfNums [1])) (by rfl) rfl ?_ ?_
        · exact conv1 (1) G1.out (by rfl)
        refine hK.out _ _ trivial (fun hHeld => ?_)
        clear hK K
        refine norm_ (a' := ?_) ?_ ?_
        rotate_left
        · show Act.put _ (some 29) _ = _
          simp only [Act.put, List.setIfInBounds_toArray, List.set_cons_zero, List.set_cons_succ, i64_w, i32_w]
          rfl
        exact norm_ (by simp only [putAll, Act.put, List.setIfInBounds_toArray, List.set_cons_zero, List.set_cons_succ]) (hCont (.slice (some ⟨g, 0, none⟩) 1 1) _ HR2.out)
    · skip
      refine goes_ Tryd.func17 (by kernel_rfl) rfl #[.int .i64 x] (by rfl) rfl rfl (by simp only [List.map_toArray, List.map_cons, List.map_nil]; rfl) ?_
      with_reducible refine (leb_is _ (Below.refl WD.drew.heap.size WD.drew)).mono ?_
      rintro e wr1 ⟨rfl, hb⟩
      refine ⟨_, rfl, ?_⟩
      have HR1 := Aside0.mk (below_step HR0.out hb)
      clear hb HR0
      refine hK.out _ _ trivial (fun hHeld => ?_)
      clear hK K
      refine norm_ (a' := ?_) ?_ ?_
      rotate_left
      · show Act.put _ (some 31) _ = _
        simp only [Act.put, List.setIfInBounds_toArray, List.set_cons_zero, List.set_cons_succ, i64_w, i32_w]
        rfl
      refine one_ (i := 1) (N := some 28) #[true, true, false, true, true, false, false] rfl rfl (by kernel_rfl) (by decide) (fun K hK => ?_)
      refine lit_step ?hw (N := 28) ?hd (cs := #[.int .u8 1]) (t := 5) (n := 1) ?hr ?_
      case hw => rfl
      case hd => rfl
      case hr => first | (go_simp; done) | (go_simp; rfl)
      intro g hg wr2 hA hb
      have G1 := Aside0.mk hA
      have HR2 := Aside0.mk (below_step HR1.out hb)
      clear hA hb hg HR1
      refine hK.out _ _ trivial (fun hHeld => ?_)
      clear hK K
      refine norm_ (a' := ?_) ?_ ?_
      rotate_left
      · show Act.put _ (some 28) _ = _
        simp only [Act.put, List.setIfInBounds_toArray, List.set_cons_zero, List.set_cons_succ, i64_w, i32_w]
        rfl
      refine one_ (i := 2) (N := some 29) #[true, true, true, true, true, false, false] rfl rfl (by kernel_rfl) (by decide) (fun K hK => ?_)
      refine value_ (w1 := wr2) (v := .string (strOfNums [1])) (by rfl) rfl ?_ ?_
      · exact conv1 (1) G1.out (by rfl)
      refine hK.out _ _ trivial (fun hHeld => ?_)
      clear hK K
      refine norm_ (a' := ?_) ?_ ?_
      rotate_left
      · show Act.put _ (some 29) _ = _
        simp only [Act.put, List.setIfInBounds_toArray, List.set_cons_zero, List.set_cons_succ, i64_w, i32_w]
        rfl
      exact norm_ (by simp only [putAll, Act.put, List.setIfInBounds_toArray, List.set_cons_zero, List.set_cons_succ]) (hCont (.slice (some ⟨g, 0, none⟩) 1 1) _ HR2.out)
  rintro sv w4 hb4
  have BW_4 := Aside0.mk hb4
  clear hb4
  have hHeld : True := trivial
  refine norm_ (a' := ?_) ?_ ?_
  rotate_left
  · simp only [putAll, Act.put, List.setIfInBounds_toArray, List.set_cons_zero, List.set_cons_succ]
    rfl
  refine pure_ (i := 5) (N := some 32) (v := ?_) (a' := ?_) #[true, true, true, true, true, true, false] rfl rfl (by kernel_rfl) (fun _ _ _ h => h) (Or.inl ⟨by rfl, ?_⟩) ?_ ?_
  rotate_left
  · intro w'
    go_simp
    with_reducible rfl
  rotate_left
  · simp only [Act.put, List.setIfInBounds_toArray, List.set_cons_zero, List.set_cons_succ, i64_w, i32_w]
    rfl
  refine pure_ (i := 6) (N := some 10) (v := ?_) (a' := ?_) #[true, true, true, true, true, true, true] rfl rfl (by kernel_rfl) (fun _ _ _ h => h) (Or.inl ⟨by rfl, ?_⟩) ?_ ?_
  rotate_left
  · intro w'
    go_simp
    with_reducible rfl
  rotate_left
  · simp only [Act.put, List.setIfInBounds_toArray, List.set_cons_zero, List.set_cons_succ, i64_w, i32_w]
    rfl
  refine done_ (by kernel_rfl) ?_

  clear HB1
  go_wp2_with (first
    | ((with_reducible refine gate_dst (N := 11) rfl ?_); refine box_event ?hg (N := 11) ?hd (cs := #[.int .i64 0, .int .i64 0]) (t := 54) ?hr ?_; (case hd => rfl); (case hg => rfl); (case hr => first | (go_simp; done) | (go_simp; rfl)); intro q0 hgq0 w5 hA hb; have Jq0 := Aside0.mk hA; have Mq0 := Aside0.mk (show W.heap.size ≤ q0 by have := BW_4.out.size; omega); have BW_5 := Aside0.mk (BW_4.out.trans (hb.mono BW_4.out.size)); clear BW_4; clear hA hb hgq0)
    | ((with_reducible refine gate_store (p := 11) rfl ?_); refine storeRow_event (g := q0) rfl rfl rfl (cs := #[.int .i64 x, .int .i64 (-1)]) rfl rfl Jq0.out (by kernel_rfl) rfl (by simp [Value.oneCell']) ?_; intro w6 hA hb ho hs; have BW_6 := Aside0.mk (hb _ _ Mq0.out BW_5.out); clear BW_5; clear Jq0; have K0 := Aside0.mk hA; clear hA hb ho hs)
    | (go_at_call 17; (with_reducible refine (leb_is y (Below.refl w6.heap.size w6)).mono ?_); rintro e w7 ⟨rfl, hb⟩; have K0b := Aside0.mk (blk_below' K0.out hb); clear K0; have K0 := K0b; clear K0b; have BW_7 := Aside0.mk (BW_6.out.trans (hb.mono BW_6.out.size)); clear BW_6; clear hb)
    | ((with_reducible refine gate_store (p := 42) rfl ?_); refine storeCell_event (g := q0) (j := 1) (x := .int .i64 y) rfl rfl rfl rfl rfl K0.out (by simp) (by kernel_rfl) rfl ?_; intro w8 hA hb ho hs; have BW_8 := Aside0.mk (hb _ _ Mq0.out BW_7.out); clear BW_7; have BX_8 := Aside0.mk (Below.refl w8.heap.size w8); have Za0 := Aside0.mk (show w8.cell? ⟨q0, 0, none⟩ = some (.int .i64 x) from blk_cell hA 0); have Za1 := Aside0.mk (show w8.cell? ⟨q0, 1, none⟩ = some (.int .i64 y) from blk_cell hA 1); clear K0 Mq0 hA hb ho hs)
    | (go_at_call 20; (with_reducible refine (section_is 4 _ S4.out (Below.refl w8.heap.size w8)).mono ?_); rintro e w9 ⟨rfl, hb⟩; have BW_9 := Aside0.mk (BW_8.out.trans (hb.mono BW_8.out.size)); clear BW_8; have BX_9 := Aside0.mk (BX_8.out.trans (hb.mono BX_8.out.size)); clear BX_8; clear hb)
    | (go_at_call 13; (with_reducible refine (mod_tab_c E4.out T4.out (tabs_below HT.out BW_9.out)).mono ?_); rintro e w10 ⟨adm, c3, A0, c0, A1, c1, A2, c2, A4, c4, A5, c5, A6, c6, A8, c8, A9, c9, A10, c10, rfl, z0, z1, hb⟩; have BW_10 := Aside0.mk (BW_9.out.trans (hb.mono BW_9.out.size)); clear BW_9; have BX_10 := Aside0.mk (BX_9.out.trans (hb.mono BX_9.out.size)); clear BX_9; have Za0b := Aside0.mk (pw_cell_below BX_10.out Za0.out); clear Za0; have Za0 := Za0b; clear Za0b; have Za1b := Aside0.mk (pw_cell_below BX_10.out Za1.out); clear Za1; have Za1 := Za1b; clear Za1b; clear BX_10; have BX_10 := Aside0.mk (Below.refl w10.heap.size w10); have Zm0 := Aside0.mk (show w10.cell? adm = some (.int .i64 x) from z0); have Zm1 := Aside0.mk (show w10.cell? ⟨adm.block, adm.off + 1, none⟩ = some (.int .i64 y) from z1); clear z0 z1; clear hb)
    | ((with_reducible refine gate_dst (N := 12) rfl ?_); refine box_event ?hg (N := 12) ?hd (cs := #[.slice none 0 0, .slice none 0 0, .slice none 0 0, .slice none 0 0, .slice none 0 0, .slice none 0 0, .slice none 0 0, .int .i64 0, .slice none 0 0, .slice none 0 0, .slice none 0 0]) (t := 33) ?hr ?_; (case hd => rfl); (case hg => rfl); (case hr => first | (go_simp; done) | (go_simp; rfl)); intro q1 hgq1 w11 hA hb; have Jq1 := Aside0.mk hA; have Mq1 := Aside0.mk (show W.heap.size ≤ q1 by have := BW_10.out.size; omega); have MXq1 := Aside0.mk (show w10.heap.size ≤ q1 by have := BX_10.out.size; omega); have BW_11 := Aside0.mk (BW_10.out.trans (hb.mono BW_10.out.size)); clear BW_10; have BX_11 := Aside0.mk (BX_10.out.trans (hb.mono BX_10.out.size)); clear BX_10; clear hA hb hgq1)
    | ((with_reducible refine gate_store (p := 12) rfl ?_); refine storeRow_event (g := q1) rfl rfl rfl (cs := #[.slice A0 mT.types.length c0, .slice A1 mT.imports.length c1, .slice A2 mT.funcs.length c2, .slice (some adm) 1 c3, .slice A4 mT.mems.length c4, .slice A5 mT.globals.length c5, .slice A6 mT.exports.length c6, .int .i64 mT.start, .slice A8 mT.elems.length c8, .slice A9 mT.codes.length c9, .slice A10 mT.datas.length c10]) rfl rfl Jq1.out (by kernel_rfl) rfl (by simp [Value.oneCell']) ?_; intro w12 hA hb ho hs; have BW_12 := Aside0.mk (hb _ _ Mq1.out BW_11.out); clear BW_11; have BX_12 := Aside0.mk (hb _ _ MXq1.out BX_11.out); clear BX_11; clear Jq1 Mq1 MXq1; have Za0b := Aside0.mk (pw_cell_below BX_12.out Za0.out); clear Za0; have Za0 := Za0b; clear Za0b; have Za1b := Aside0.mk (pw_cell_below BX_12.out Za1.out); clear Za1; have Za1 := Za1b; clear Za1b; have Zm0b := Aside0.mk (pw_cell_below BX_12.out Zm0.out); clear Zm0; have Zm0 := Zm0b; clear Zm0b; have Zm1b := Aside0.mk (pw_cell_below BX_12.out Zm1.out); clear Zm1; have Zm1 := Zm1b; clear Zm1b; clear BX_12; have BX_12 := Aside0.mk (Below.refl w12.heap.size w12); have Zq13 := Aside0.mk (show w12.cell? ⟨q1, 3, none⟩ = some (.slice (some adm) 1 c3) from blk_cell hA 3); clear hA hb ho hs)
    | (go_at_call 20; (with_reducible refine (section_is 5 _ S5.out (Below.refl w12.heap.size w12)).mono ?_); rintro e w13 ⟨rfl, hb⟩; have BW_13 := Aside0.mk (BW_12.out.trans (hb.mono BW_12.out.size)); clear BW_12; have BX_13 := Aside0.mk (BX_12.out.trans (hb.mono BX_12.out.size)); clear BX_12; clear hb)
    | (go_at_call 13; (with_reducible refine (mod_mem_c E5.out T5.out (tabs_below HT.out BW_13.out)).mono ?_); rintro e w14 ⟨ado, d4, D0, d0, D1, d1, D2, d2, D3, d3, D5, d5, D6, d6, D8, d8, D9, d9, D10, d10, rfl, z0, z1, hb⟩; have BW_14 := Aside0.mk (BW_13.out.trans (hb.mono BW_13.out.size)); clear BW_13; have BX_14 := Aside0.mk (BX_13.out.trans (hb.mono BX_13.out.size)); clear BX_13; have Za0b := Aside0.mk (pw_cell_below BX_14.out Za0.out); clear Za0; have Za0 := Za0b; clear Za0b; have Za1b := Aside0.mk (pw_cell_below BX_14.out Za1.out); clear Za1; have Za1 := Za1b; clear Za1b; have Zm0b := Aside0.mk (pw_cell_below BX_14.out Zm0.out); clear Zm0; have Zm0 := Zm0b; clear Zm0b; have Zm1b := Aside0.mk (pw_cell_below BX_14.out Zm1.out); clear Zm1; have Zm1 := Zm1b; clear Zm1b; have Zq13b := Aside0.mk (pw_cell_below BX_14.out Zq13.out); clear Zq13; have Zq13 := Zq13b; clear Zq13b; clear BX_14; have BX_14 := Aside0.mk (Below.refl w14.heap.size w14); have Zo0 := Aside0.mk (show w14.cell? ado = some (.int .i64 x) from z0); have Zo1 := Aside0.mk (show w14.cell? ⟨ado.block, ado.off + 1, none⟩ = some (.int .i64 y) from z1); clear z0 z1; clear hb)
    | ((with_reducible refine gate_dst (N := 14) rfl ?_); refine box_event ?hg (N := 14) ?hd (cs := #[.slice none 0 0, .slice none 0 0, .slice none 0 0, .slice none 0 0, .slice none 0 0, .slice none 0 0, .slice none 0 0, .int .i64 0, .slice none 0 0, .slice none 0 0, .slice none 0 0]) (t := 33) ?hr ?_; (case hd => rfl); (case hg => rfl); (case hr => first | (go_simp; done) | (go_simp; rfl)); intro q2 hgq2 w15 hA hb; have Jq2 := Aside0.mk hA; have Mq2 := Aside0.mk (show W.heap.size ≤ q2 by have := BW_14.out.size; omega); have MXq2 := Aside0.mk (show w14.heap.size ≤ q2 by have := BX_14.out.size; omega); have BW_15 := Aside0.mk (BW_14.out.trans (hb.mono BW_14.out.size)); clear BW_14; have BX_15 := Aside0.mk (BX_14.out.trans (hb.mono BX_14.out.size)); clear BX_14; clear hA hb hgq2)
    | ((with_reducible refine gate_store (p := 14) rfl ?_); refine storeRow_event (g := q2) rfl rfl rfl (cs := #[.slice D0 mO.types.length d0, .slice D1 mO.imports.length d1, .slice D2 mO.funcs.length d2, .slice D3 mO.tables.length d3, .slice (some ado) 1 d4, .slice D5 mO.globals.length d5, .slice D6 mO.exports.length d6, .int .i64 mO.start, .slice D8 mO.elems.length d8, .slice D9 mO.codes.length d9, .slice D10 mO.datas.length d10]) rfl rfl Jq2.out (by kernel_rfl) rfl (by simp [Value.oneCell']) ?_; intro w16 hA hb ho hs; have BW_16 := Aside0.mk (hb _ _ Mq2.out BW_15.out); clear BW_15; have BX_16 := Aside0.mk (hb _ _ MXq2.out BX_15.out); clear BX_15; clear Jq2 Mq2 MXq2; have Za0b := Aside0.mk (pw_cell_below BX_16.out Za0.out); clear Za0; have Za0 := Za0b; clear Za0b; have Za1b := Aside0.mk (pw_cell_below BX_16.out Za1.out); clear Za1; have Za1 := Za1b; clear Za1b; have Zm0b := Aside0.mk (pw_cell_below BX_16.out Zm0.out); clear Zm0; have Zm0 := Zm0b; clear Zm0b; have Zm1b := Aside0.mk (pw_cell_below BX_16.out Zm1.out); clear Zm1; have Zm1 := Zm1b; clear Zm1b; have Zq13b := Aside0.mk (pw_cell_below BX_16.out Zq13.out); clear Zq13; have Zq13 := Zq13b; clear Zq13b; have Zo0b := Aside0.mk (pw_cell_below BX_16.out Zo0.out); clear Zo0; have Zo0 := Zo0b; clear Zo0b; have Zo1b := Aside0.mk (pw_cell_below BX_16.out Zo1.out); clear Zo1; have Zo1 := Zo1b; clear Zo1b; clear BX_16; have BX_16 := Aside0.mk (Below.refl w16.heap.size w16); have Zq24 := Aside0.mk (show w16.cell? ⟨q2, 4, none⟩ = some (.slice (some ado) 1 d4) from blk_cell hA 4); clear hA hb ho hs)
    | (go_at_call 20; (with_reducible refine (section_is 4 _ S4b.out (Below.refl w16.heap.size w16)).mono ?_); rintro e w17 ⟨rfl, hb⟩; have BW_17 := Aside0.mk (BW_16.out.trans (hb.mono BW_16.out.size)); clear BW_16; have BX_17 := Aside0.mk (BX_16.out.trans (hb.mono BX_16.out.size)); clear BX_16; clear hb)
    | (go_at_call 13; (with_reducible refine (mod_er_c EB.out (tabs_below HT.out BW_17.out) (Below.refl w17.heap.size w17)).mono ?_); rintro e w18 ⟨rfl, hb⟩; have BW_18 := Aside0.mk (BW_17.out.trans (hb.mono BW_17.out.size)); clear BW_17; have BX_18 := Aside0.mk (BX_17.out.trans (hb.mono BX_17.out.size)); clear BX_17; clear hb)
    | ((with_reducible refine gate_dst (N := 16) rfl ?_); refine box_event ?hg (N := 16) ?hd (cs := #[.slice none 0 0, .slice none 0 0, .slice none 0 0, .slice none 0 0, .slice none 0 0, .slice none 0 0, .slice none 0 0, .int .i64 0, .slice none 0 0, .slice none 0 0, .slice none 0 0]) (t := 33) ?hr ?_; (case hd => rfl); (case hg => rfl); (case hr => first | (go_simp; done) | (go_simp; rfl)); intro q3 hgq3 w19 hA hb; have Jq3 := Aside0.mk hA; have Mq3 := Aside0.mk (show W.heap.size ≤ q3 by have := BW_18.out.size; omega); have MXq3 := Aside0.mk (show w16.heap.size ≤ q3 by have := BX_18.out.size; omega); have BW_19 := Aside0.mk (BW_18.out.trans (hb.mono BW_18.out.size)); clear BW_18; have BX_19 := Aside0.mk (BX_18.out.trans (hb.mono BX_18.out.size)); clear BX_18; clear hA hb hgq3)
    | ((with_reducible refine gate_store (p := 16) rfl ?_); refine storeRow_event (g := q3) rfl rfl rfl (cs := #[.slice none 0 0, .slice none 0 0, .slice none 0 0, .slice none 0 0, .slice none 0 0, .slice none 0 0, .slice none 0 0, .int .i64 0, .slice none 0 0, .slice none 0 0, .slice none 0 0]) rfl rfl Jq3.out (by kernel_rfl) rfl (by simp [Value.oneCell']) ?_; intro w20 hA hb ho hs; have BW_20 := Aside0.mk (hb _ _ Mq3.out BW_19.out); clear BW_19; have BX_20 := Aside0.mk (hb _ _ MXq3.out BX_19.out); clear BX_19; clear Jq3 Mq3 MXq3; clear hA hb ho hs))
  have ya0 : w20.cell? ⟨q0, 0, none⟩ = some (.int .i64 x) := pw_cell_below BX_20.out Za0.out
  have ya1 : w20.cell? ⟨q0, 1, none⟩ = some (.int .i64 y) := pw_cell_below BX_20.out Za1.out
  have ym0 : w20.cell? adm = some (.int .i64 x) := pw_cell_below BX_20.out Zm0.out
  have ym1 : w20.cell? ⟨adm.block, adm.off + 1, none⟩ = some (.int .i64 y) := pw_cell_below BX_20.out Zm1.out
  have yq13 : w20.cell? ⟨q1, 3, none⟩ = some (.slice (some adm) 1 c3) := pw_cell_below BX_20.out Zq13.out
  have yo0 : w20.cell? ado = some (.int .i64 x) := pw_cell_below BX_20.out Zo0.out
  have yo1 : w20.cell? ⟨ado.block, ado.off + 1, none⟩ = some (.int .i64 y) := pw_cell_below BX_20.out Zo1.out
  have yq24 : w20.cell? ⟨q2, 4, none⟩ = some (.slice (some ado) 1 d4) := pw_cell_below BX_20.out Zq24.out
  have BWd : Aside0 (Below W.heap.size W w20.drew) := ⟨below_drew BW_20.out⟩
  have BXd : Aside0 (Below w16.heap.size w16 w20.drew) := ⟨below_drew BX_20.out⟩
  refine start_ (n := 42) (S := fun w' => w'.cell? ⟨q0, 0, none⟩ = some (.int .i64 x) ∧ w'.cell? ⟨q0, 1, none⟩ = some (.int .i64 y) ∧ w'.cell? adm = some (.int .i64 x) ∧ w'.cell? ⟨adm.block, adm.off + 1, none⟩ = some (.int .i64 y) ∧ w'.cell? ⟨q1, 3, none⟩ = some (.slice (some adm) 1 c3) ∧ w'.cell? ado = some (.int .i64 x) ∧ w'.cell? ⟨ado.block, ado.off + 1, none⟩ = some (.int .i64 y) ∧ w'.cell? ⟨q2, 4, none⟩ = some (.slice (some ado) 1 d4)) (ds := []) #[false, false, false, false, false, false, false, false, false, false, false, false, false, false, false, false, false, false, false, false, false, false, false, false, false, false, false, false, false, false, false, false, false, false, false, false, false, false, false, false, false, false] (by kernel_rfl) rfl rfl ⟨ya0, ya1, ym0, ym1, yq13, yo0, yo1, yq24⟩ (fun hHeld => ?_)
  refine pure_ (i := 0) (N := some 77) (v := ?_) (a' := ?_) #[true, false, false, false, false, false, false, false, false, false, false, false, false, false, false, false, false, false, false, false, false, false, false, false, false, false, false, false, false, false, false, false, false, false, false, false, false, false, false, false, false, false] rfl rfl (by kernel_rfl) (fun _ _ _ h => h) (Or.inl ⟨by rfl, ?_⟩) ?_ ?_
  rotate_left
  · intro w'
    go_simp
    with_reducible rfl
  rotate_left
  · simp only [Act.put, List.setIfInBounds_toArray, List.set_cons_zero, List.set_cons_succ, i64_w, i32_w]
    rfl
  refine one_ (i := 1) (N := some 78) #[true, true, false, false, false, false, false, false, false, false, false, false, false, false, false, false, false, false, false, false, false, false, false, false, false, false, false, false, false, false, false, false, false, false, false, false, false, false, false, false, false, false] rfl rfl (by kernel_rfl) (by decide) (fun K hK => ?_)
  refine goes_ Tryd.func14 (by kernel_rfl) rfl #[.int .i64 0] (by rfl) rfl rfl (by simp only [List.map_toArray, List.map_cons, List.map_nil]; rfl) ?_
  with_reducible refine (num_is 0 (Below.refl w20.drew.heap.size w20.drew)).mono ?_
  rintro e v0 ⟨rfl, hb⟩
  refine ⟨_, rfl, ?_⟩
  have BWv0 := Aside0.mk (BWd.out.trans (hb.mono BWd.out.size))
  have BXv0 := Aside0.mk (BXd.out.trans (hb.mono BXd.out.size))
  clear hb BWd BXd
  refine hK.out _ _ ⟨pw_cell_below BXv0.out Za0.out, pw_cell_below BXv0.out Za1.out, pw_cell_below BXv0.out Zm0.out, pw_cell_below BXv0.out Zm1.out, pw_cell_below BXv0.out Zq13.out, pw_cell_below BXv0.out Zo0.out, pw_cell_below BXv0.out Zo1.out, pw_cell_below BXv0.out Zq24.out⟩ (fun hHeld => ?_)
  clear hK K
  refine norm_ (a' := ?_) ?_ ?_
  rotate_left
  · show Act.put _ (some 78) _ = _
    simp only [Act.put, List.setIfInBounds_toArray, List.set_cons_zero, List.set_cons_succ, i64_w, i32_w]
    rfl
  refine pure_ (i := 2) (N := some 79) (v := ?_) (a' := ?_) #[true, true, true, false, false, false, false, false, false, false, false, false, false, false, false, false, false, false, false, false, false, false, false, false, false, false, false, false, false, false, false, false, false, false, false, false, false, false, false, false, false, false] rfl rfl (by kernel_rfl) (fun _ _ _ h => h) (Or.inl ⟨by rfl, ?_⟩) ?_ ?_
  rotate_left
  · intro w'
    go_simp
    with_reducible rfl
  rotate_left
  · simp only [Act.put, List.setIfInBounds_toArray, List.set_cons_zero, List.set_cons_succ, i64_w, i32_w]
    rfl
  refine pure_ (i := 3) (N := some 80) (v := ?_) (a' := ?_) #[true, true, true, true, false, false, false, false, false, false, false, false, false, false, false, false, false, false, false, false, false, false, false, false, false, false, false, false, false, false, false, false, false, false, false, false, false, false, false, false, false, false] rfl rfl (by kernel_rfl) (fun _ _ _ h => h) (Or.inl ⟨by rfl, ?_⟩) ?_ ?_
  rotate_left
  · intro w'
    go_simp
    with_reducible rfl
  rotate_left
  · simp only [Act.put, List.setIfInBounds_toArray, List.set_cons_zero, List.set_cons_succ, i64_w, i32_w]
    rfl
  refine pure_ (i := 4) (N := some 81) (v := ?_) (a' := ?_) #[true, true, true, true, true, false, false, false, false, false, false, false, false, false, false, false, false, false, false, false, false, false, false, false, false, false, false, false, false, false, false, false, false, false, false, false, false, false, false, false, false, false] rfl rfl (by kernel_rfl) (fun _ _ _ h => h) (Or.inl ⟨by rfl, ?_⟩) ?_ ?_
  rotate_left
  · intro w'
    go_simp
    with_reducible rfl
  rotate_left
  · simp only [Act.put, List.setIfInBounds_toArray, List.set_cons_zero, List.set_cons_succ, i64_w, i32_w]
    rfl
  refine take_ (i := 5) (N := some 82) (v := ?_) (a' := ?_) #[true, true, true, true, true, true, false, false, false, false, false, false, false, false, false, false, false, false, false, false, false, false, false, false, false, false, false, false, false, false, false, false, false, false, false, false, false, false, false, false, false, false] rfl rfl (by kernel_rfl) (fun _ _ _ h => h) (Or.inl ⟨by rfl, ?_⟩) hHeld ?_ ?_
  rotate_left
  · rintro w' ⟨s0, s1, s2, s3, s4, s5, s6, s7⟩
    go_simp
    with_reducible rfl
  rotate_left
  · simp only [Act.put, List.setIfInBounds_toArray, List.set_cons_zero, List.set_cons_succ, i64_w, i32_w]
    rfl
  refine pure_ (i := 6) (N := some 83) (v := ?_) (a' := ?_) #[true, true, true, true, true, true, true, false, false, false, false, false, false, false, false, false, false, false, false, false, false, false, false, false, false, false, false, false, false, false, false, false, false, false, false, false, false, false, false, false, false, false] rfl rfl (by kernel_rfl) (fun _ _ _ h => h) (Or.inl ⟨by rfl, ?_⟩) ?_ ?_
  rotate_left
  · intro w'
    go_simp
    with_reducible rfl
  rotate_left
  · simp only [Act.put, List.setIfInBounds_toArray, List.set_cons_zero, List.set_cons_succ, i64_w, i32_w]
    rfl
  refine pure_ (i := 7) (N := some 84) (v := ?_) (a' := ?_) #[true, true, true, true, true, true, true, true, false, false, false, false, false, false, false, false, false, false, false, false, false, false, false, false, false, false, false, false, false, false, false, false, false, false, false, false, false, false, false, false, false, false] rfl rfl (by kernel_rfl) (fun _ _ _ h => h) (Or.inl ⟨by rfl, ?_⟩) ?_ ?_
  rotate_left
  · intro w'
    go_simp
    with_reducible rfl
  rotate_left
  · simp only [Act.put, List.setIfInBounds_toArray, List.set_cons_zero, List.set_cons_succ, i64_w, i32_w]
    rfl
  refine pure_ (i := 8) (N := some 85) (v := ?_) (a' := ?_) #[true, true, true, true, true, true, true, true, true, false, false, false, false, false, false, false, false, false, false, false, false, false, false, false, false, false, false, false, false, false, false, false, false, false, false, false, false, false, false, false, false, false] rfl rfl (by kernel_rfl) (fun _ _ _ h => h) (Or.inl ⟨by rfl, ?_⟩) ?_ ?_
  rotate_left
  · intro w'
    go_simp
    with_reducible rfl
  rotate_left
  · simp only [Act.put, List.setIfInBounds_toArray, List.set_cons_zero, List.set_cons_succ, i64_w, i32_w]
    rfl
  refine pure_ (i := 9) (N := some 86) (v := ?_) (a' := ?_) #[true, true, true, true, true, true, true, true, true, true, false, false, false, false, false, false, false, false, false, false, false, false, false, false, false, false, false, false, false, false, false, false, false, false, false, false, false, false, false, false, false, false] rfl rfl (by kernel_rfl) (fun _ _ _ h => h) (Or.inl ⟨by rfl, ?_⟩) ?_ ?_
  rotate_left
  · intro w'
    go_simp
    with_reducible rfl
  rotate_left
  · simp only [Act.put, List.setIfInBounds_toArray, List.set_cons_zero, List.set_cons_succ, i64_w, i32_w]
    rfl
  refine pure_ (i := 10) (N := some 87) (v := ?_) (a' := ?_) #[true, true, true, true, true, true, true, true, true, true, true, false, false, false, false, false, false, false, false, false, false, false, false, false, false, false, false, false, false, false, false, false, false, false, false, false, false, false, false, false, false, false] rfl rfl (by kernel_rfl) (fun _ _ _ h => h) (Or.inl ⟨by rfl, ?_⟩) ?_ ?_
  rotate_left
  · intro w'
    go_simp
    with_reducible rfl
  rotate_left
  · simp only [Act.put, List.setIfInBounds_toArray, List.set_cons_zero, List.set_cons_succ, i64_w, i32_w]
    rfl
  refine take_ (i := 11) (N := some 88) (v := ?_) (a' := ?_) #[true, true, true, true, true, true, true, true, true, true, true, true, false, false, false, false, false, false, false, false, false, false, false, false, false, false, false, false, false, false, false, false, false, false, false, false, false, false, false, false, false, false] rfl rfl (by kernel_rfl) (fun _ _ _ h => h) (Or.inl ⟨by rfl, ?_⟩) hHeld ?_ ?_
  rotate_left
  · rintro w' ⟨s0, s1, s2, s3, s4, s5, s6, s7⟩
    go_simp
    with_reducible rfl
  rotate_left
  · simp only [Act.put, List.setIfInBounds_toArray, List.set_cons_zero, List.set_cons_succ, i64_w, i32_w]
    rfl
  refine pure_ (i := 12) (N := some 89) (v := ?_) (a' := ?_) #[true, true, true, true, true, true, true, true, true, true, true, true, true, false, false, false, false, false, false, false, false, false, false, false, false, false, false, false, false, false, false, false, false, false, false, false, false, false, false, false, false, false] rfl rfl (by kernel_rfl) (fun _ _ _ h => h) (Or.inl ⟨by rfl, ?_⟩) ?_ ?_
  rotate_left
  · intro w'
    go_simp
    with_reducible rfl
  rotate_left
  · simp only [Act.put, List.setIfInBounds_toArray, List.set_cons_zero, List.set_cons_succ, i64_w, i32_w]
    rfl
  refine take_ (i := 13) (N := some 90) (v := ?_) (a' := ?_) #[true, true, true, true, true, true, true, true, true, true, true, true, true, true, false, false, false, false, false, false, false, false, false, false, false, false, false, false, false, false, false, false, false, false, false, false, false, false, false, false, false, false] rfl rfl (by kernel_rfl) (fun _ _ _ h => h) (Or.inl ⟨by rfl, ?_⟩) hHeld ?_ ?_
  rotate_left
  · rintro w' ⟨s0, s1, s2, s3, s4, s5, s6, s7⟩
    go_simp
    with_reducible rfl
  rotate_left
  · simp only [Act.put, List.setIfInBounds_toArray, List.set_cons_zero, List.set_cons_succ, i64_w, i32_w]
    rfl
  refine take_ (i := 14) (N := some 91) (v := ?_) (a' := ?_) #[true, true, true, true, true, true, true, true, true, true, true, true, true, true, true, false, false, false, false, false, false, false, false, false, false, false, false, false, false, false, false, false, false, false, false, false, false, false, false, false, false, false] rfl rfl (by kernel_rfl) (fun _ _ _ h => h) (Or.inl ⟨by rfl, ?_⟩) hHeld ?_ ?_
  rotate_left
  · rintro w' ⟨s0, s1, s2, s3, s4, s5, s6, s7⟩
    go_simp
    with_reducible rfl
  rotate_left
  · simp only [Act.put, List.setIfInBounds_toArray, List.set_cons_zero, List.set_cons_succ, i64_w, i32_w]
    rfl
  refine pure_ (i := 15) (N := some 92) (v := ?_) (a' := ?_) #[true, true, true, true, true, true, true, true, true, true, true, true, true, true, true, true, false, false, false, false, false, false, false, false, false, false, false, false, false, false, false, false, false, false, false, false, false, false, false, false, false, false] rfl rfl (by kernel_rfl) (fun _ _ _ h => h) (Or.inl ⟨by rfl, ?_⟩) ?_ ?_
  rotate_left
  · intro w'
    go_simp
    with_reducible rfl
  rotate_left
  · simp only [Act.put, List.setIfInBounds_toArray, List.set_cons_zero, List.set_cons_succ, i64_w, i32_w]
    rfl
  refine pure_ (i := 16) (N := some 93) (v := ?_) (a' := ?_) #[true, true, true, true, true, true, true, true, true, true, true, true, true, true, true, true, true, false, false, false, false, false, false, false, false, false, false, false, false, false, false, false, false, false, false, false, false, false, false, false, false, false] rfl rfl (by kernel_rfl) (fun _ _ _ h => h) (Or.inl ⟨by rfl, ?_⟩) ?_ ?_
  rotate_left
  · intro w'
    go_simp
    with_reducible rfl
  rotate_left
  · simp only [Act.put, List.setIfInBounds_toArray, List.set_cons_zero, List.set_cons_succ, i64_w, i32_w]
    rfl
  refine pure_ (i := 17) (N := some 94) (v := ?_) (a' := ?_) #[true, true, true, true, true, true, true, true, true, true, true, true, true, true, true, true, true, true, false, false, false, false, false, false, false, false, false, false, false, false, false, false, false, false, false, false, false, false, false, false, false, false] rfl rfl (by kernel_rfl) (fun _ _ _ h => h) (Or.inl ⟨by rfl, ?_⟩) ?_ ?_
  rotate_left
  · intro w'
    go_simp
    with_reducible rfl
  rotate_left
  · simp only [Act.put, List.setIfInBounds_toArray, List.set_cons_zero, List.set_cons_succ, i64_w, i32_w]
    rfl
  refine pure_ (i := 18) (N := some 95) (v := ?_) (a' := ?_) #[true, true, true, true, true, true, true, true, true, true, true, true, true, true, true, true, true, true, true, false, false, false, false, false, false, false, false, false, false, false, false, false, false, false, false, false, false, false, false, false, false, false] rfl rfl (by kernel_rfl) (fun _ _ _ h => h) (Or.inl ⟨by rfl, ?_⟩) ?_ ?_
  rotate_left
  · intro w'
    go_simp
    with_reducible rfl
  rotate_left
  · simp only [Act.put, List.setIfInBounds_toArray, List.set_cons_zero, List.set_cons_succ, i64_w, i32_w]
    rfl
  refine one_ (i := 19) (N := some 96) #[true, true, true, true, true, true, true, true, true, true, true, true, true, true, true, true, true, true, true, true, false, false, false, false, false, false, false, false, false, false, false, false, false, false, false, false, false, false, false, false, false, false] rfl rfl (by kernel_rfl) (by decide) (fun K hK => ?_)
  refine goes_ Tryd.func14 (by kernel_rfl) rfl #[.int .i64 0] (by rfl) rfl rfl (by simp only [List.map_toArray, List.map_cons, List.map_nil]; rfl) ?_
  with_reducible refine (num_is 0 (Below.refl v0.heap.size v0)).mono ?_
  rintro e v1 ⟨rfl, hb⟩
  refine ⟨_, rfl, ?_⟩
  have BWv1 := Aside0.mk (BWv0.out.trans (hb.mono BWv0.out.size))
  have BXv1 := Aside0.mk (BXv0.out.trans (hb.mono BXv0.out.size))
  clear hb BWv0 BXv0
  refine hK.out _ _ ⟨pw_cell_below BXv1.out Za0.out, pw_cell_below BXv1.out Za1.out, pw_cell_below BXv1.out Zm0.out, pw_cell_below BXv1.out Zm1.out, pw_cell_below BXv1.out Zq13.out, pw_cell_below BXv1.out Zo0.out, pw_cell_below BXv1.out Zo1.out, pw_cell_below BXv1.out Zq24.out⟩ (fun hHeld => ?_)
  clear hK K
  refine norm_ (a' := ?_) ?_ ?_
  rotate_left
  · show Act.put _ (some 96) _ = _
    simp only [Act.put, List.setIfInBounds_toArray, List.set_cons_zero, List.set_cons_succ, i64_w, i32_w]
    rfl
  refine pure_ (i := 20) (N := some 97) (v := ?_) (a' := ?_) #[true, true, true, true, true, true, true, true, true, true, true, true, true, true, true, true, true, true, true, true, true, false, false, false, false, false, false, false, false, false, false, false, false, false, false, false, false, false, false, false, false, false] rfl rfl (by kernel_rfl) (fun _ _ _ h => h) (Or.inl ⟨by rfl, ?_⟩) ?_ ?_
  rotate_left
  · intro w'
    go_simp
    with_reducible rfl
  rotate_left
  · simp only [Act.put, List.setIfInBounds_toArray, List.set_cons_zero, List.set_cons_succ, i64_w, i32_w]
    rfl
  refine pure_ (i := 21) (N := some 98) (v := ?_) (a' := ?_) #[true, true, true, true, true, true, true, true, true, true, true, true, true, true, true, true, true, true, true, true, true, true, false, false, false, false, false, false, false, false, false, false, false, false, false, false, false, false, false, false, false, false] rfl rfl (by kernel_rfl) (fun _ _ _ h => h) (Or.inl ⟨by rfl, ?_⟩) ?_ ?_
  rotate_left
  · intro w'
    go_simp
    with_reducible rfl
  rotate_left
  · simp only [Act.put, List.setIfInBounds_toArray, List.set_cons_zero, List.set_cons_succ, i64_w, i32_w]
    rfl
  refine pure_ (i := 22) (N := some 99) (v := ?_) (a' := ?_) #[true, true, true, true, true, true, true, true, true, true, true, true, true, true, true, true, true, true, true, true, true, true, true, false, false, false, false, false, false, false, false, false, false, false, false, false, false, false, false, false, false, false] rfl rfl (by kernel_rfl) (fun _ _ _ h => h) (Or.inl ⟨by rfl, ?_⟩) ?_ ?_
  rotate_left
  · intro w'
    go_simp
    with_reducible rfl
  rotate_left
  · simp only [Act.put, List.setIfInBounds_toArray, List.set_cons_zero, List.set_cons_succ, i64_w, i32_w]
    rfl
  refine pure_ (i := 23) (N := some 100) (v := ?_) (a' := ?_) #[true, true, true, true, true, true, true, true, true, true, true, true, true, true, true, true, true, true, true, true, true, true, true, true, false, false, false, false, false, false, false, false, false, false, false, false, false, false, false, false, false, false] rfl rfl (by kernel_rfl) (fun _ _ _ h => h) (Or.inl ⟨by rfl, ?_⟩) ?_ ?_
  rotate_left
  · intro w'
    go_simp
    with_reducible rfl
  rotate_left
  · simp only [Act.put, List.setIfInBounds_toArray, List.set_cons_zero, List.set_cons_succ, i64_w, i32_w]
    rfl
  refine take_ (i := 24) (N := some 101) (v := ?_) (a' := ?_) #[true, true, true, true, true, true, true, true, true, true, true, true, true, true, true, true, true, true, true, true, true, true, true, true, true, false, false, false, false, false, false, false, false, false, false, false, false, false, false, false, false, false] rfl rfl (by kernel_rfl) (fun _ _ _ h => h) (Or.inl ⟨by rfl, ?_⟩) hHeld ?_ ?_
  rotate_left
  · rintro w' ⟨s0, s1, s2, s3, s4, s5, s6, s7⟩
    go_simp
    with_reducible rfl
  rotate_left
  · simp only [Act.put, List.setIfInBounds_toArray, List.set_cons_zero, List.set_cons_succ, i64_w, i32_w]
    rfl
  refine pure_ (i := 25) (N := some 102) (v := ?_) (a' := ?_) #[true, true, true, true, true, true, true, true, true, true, true, true, true, true, true, true, true, true, true, true, true, true, true, true, true, true, false, false, false, false, false, false, false, false, false, false, false, false, false, false, false, false] rfl rfl (by kernel_rfl) (fun _ _ _ h => h) (Or.inl ⟨by rfl, ?_⟩) ?_ ?_
  rotate_left
  · intro w'
    go_simp
    with_reducible rfl
  rotate_left
  · simp only [Act.put, List.setIfInBounds_toArray, List.set_cons_zero, List.set_cons_succ, i64_w, i32_w]
    rfl
  refine pure_ (i := 26) (N := some 103) (v := ?_) (a' := ?_) #[true, true, true, true, true, true, true, true, true, true, true, true, true, true, true, true, true, true, true, true, true, true, true, true, true, true, true, false, false, false, false, false, false, false, false, false, false, false, false, false, false, false] rfl rfl (by kernel_rfl) (fun _ _ _ h => h) (Or.inl ⟨by rfl, ?_⟩) ?_ ?_
  rotate_left
  · intro w'
    go_simp
    with_reducible rfl
  rotate_left
  · simp only [Act.put, List.setIfInBounds_toArray, List.set_cons_zero, List.set_cons_succ, i64_w, i32_w]
    rfl
  refine pure_ (i := 27) (N := some 104) (v := ?_) (a' := ?_) #[true, true, true, true, true, true, true, true, true, true, true, true, true, true, true, true, true, true, true, true, true, true, true, true, true, true, true, true, false, false, false, false, false, false, false, false, false, false, false, false, false, false] rfl rfl (by kernel_rfl) (fun _ _ _ h => h) (Or.inl ⟨by rfl, ?_⟩) ?_ ?_
  rotate_left
  · intro w'
    go_simp
    with_reducible rfl
  rotate_left
  · simp only [Act.put, List.setIfInBounds_toArray, List.set_cons_zero, List.set_cons_succ, i64_w, i32_w]
    rfl
  refine pure_ (i := 28) (N := some 105) (v := ?_) (a' := ?_) #[true, true, true, true, true, true, true, true, true, true, true, true, true, true, true, true, true, true, true, true, true, true, true, true, true, true, true, true, true, false, false, false, false, false, false, false, false, false, false, false, false, false] rfl rfl (by kernel_rfl) (fun _ _ _ h => h) (Or.inl ⟨by rfl, ?_⟩) ?_ ?_
  rotate_left
  · intro w'
    go_simp
    with_reducible rfl
  rotate_left
  · simp only [Act.put, List.setIfInBounds_toArray, List.set_cons_zero, List.set_cons_succ, i64_w, i32_w]
    rfl
  refine pure_ (i := 29) (N := some 106) (v := ?_) (a' := ?_) #[true, true, true, true, true, true, true, true, true, true, true, true, true, true, true, true, true, true, true, true, true, true, true, true, true, true, true, true, true, true, false, false, false, false, false, false, false, false, false, false, false, false] rfl rfl (by kernel_rfl) (fun _ _ _ h => h) (Or.inl ⟨by rfl, ?_⟩) ?_ ?_
  rotate_left
  · intro w'
    go_simp
    with_reducible rfl
  rotate_left
  · simp only [Act.put, List.setIfInBounds_toArray, List.set_cons_zero, List.set_cons_succ, i64_w, i32_w]
    rfl
  refine take_ (i := 30) (N := some 107) (v := ?_) (a' := ?_) #[true, true, true, true, true, true, true, true, true, true, true, true, true, true, true, true, true, true, true, true, true, true, true, true, true, true, true, true, true, true, true, false, false, false, false, false, false, false, false, false, false, false] rfl rfl (by kernel_rfl) (fun _ _ _ h => h) (Or.inl ⟨by rfl, ?_⟩) hHeld ?_ ?_
  rotate_left
  · rintro w' ⟨s0, s1, s2, s3, s4, s5, s6, s7⟩
    go_simp
    with_reducible rfl
  rotate_left
  · simp only [Act.put, List.setIfInBounds_toArray, List.set_cons_zero, List.set_cons_succ, i64_w, i32_w]
    rfl
  refine pure_ (i := 31) (N := some 108) (v := ?_) (a' := ?_) #[true, true, true, true, true, true, true, true, true, true, true, true, true, true, true, true, true, true, true, true, true, true, true, true, true, true, true, true, true, true, true, true, false, false, false, false, false, false, false, false, false, false] rfl rfl (by kernel_rfl) (fun _ _ _ h => h) (Or.inl ⟨by rfl, ?_⟩) ?_ ?_
  rotate_left
  · intro w'
    go_simp
    with_reducible rfl
  rotate_left
  · simp only [Act.put, List.setIfInBounds_toArray, List.set_cons_zero, List.set_cons_succ, i64_w, i32_w]
    rfl
  refine take_ (i := 32) (N := some 109) (v := ?_) (a' := ?_) #[true, true, true, true, true, true, true, true, true, true, true, true, true, true, true, true, true, true, true, true, true, true, true, true, true, true, true, true, true, true, true, true, true, false, false, false, false, false, false, false, false, false] rfl rfl (by kernel_rfl) (fun _ _ _ h => h) (Or.inl ⟨by rfl, ?_⟩) hHeld ?_ ?_
  rotate_left
  · rintro w' ⟨s0, s1, s2, s3, s4, s5, s6, s7⟩
    go_simp
    with_reducible rfl
  rotate_left
  · simp only [Act.put, List.setIfInBounds_toArray, List.set_cons_zero, List.set_cons_succ, i64_w, i32_w]
    rfl
  refine take_ (i := 33) (N := some 110) (v := ?_) (a' := ?_) #[true, true, true, true, true, true, true, true, true, true, true, true, true, true, true, true, true, true, true, true, true, true, true, true, true, true, true, true, true, true, true, true, true, true, false, false, false, false, false, false, false, false] rfl rfl (by kernel_rfl) (fun _ _ _ h => h) (Or.inl ⟨by rfl, ?_⟩) hHeld ?_ ?_
  rotate_left
  · rintro w' ⟨s0, s1, s2, s3, s4, s5, s6, s7⟩
    go_simp
    with_reducible rfl
  rotate_left
  · simp only [Act.put, List.setIfInBounds_toArray, List.set_cons_zero, List.set_cons_succ, i64_w, i32_w]
    rfl
  refine pure_ (i := 34) (N := some 111) (v := ?_) (a' := ?_) #[true, true, true, true, true, true, true, true, true, true, true, true, true, true, true, true, true, true, true, true, true, true, true, true, true, true, true, true, true, true, true, true, true, true, true, false, false, false, false, false, false, false] rfl rfl (by kernel_rfl) (fun _ _ _ h => h) (Or.inl ⟨by rfl, ?_⟩) ?_ ?_
  rotate_left
  · intro w'
    go_simp
    with_reducible rfl
  rotate_left
  · simp only [Act.put, List.setIfInBounds_toArray, List.set_cons_zero, List.set_cons_succ, i64_w, i32_w]
    rfl
  refine pure_ (i := 35) (N := some 112) (v := ?_) (a' := ?_) #[true, true, true, true, true, true, true, true, true, true, true, true, true, true, true, true, true, true, true, true, true, true, true, true, true, true, true, true, true, true, true, true, true, true, true, true, false, false, false, false, false, false] rfl rfl (by kernel_rfl) (fun _ _ _ h => h) (Or.inl ⟨by rfl, ?_⟩) ?_ ?_
  rotate_left
  · intro w'
    go_simp
    with_reducible rfl
  rotate_left
  · simp only [Act.put, List.setIfInBounds_toArray, List.set_cons_zero, List.set_cons_succ, i64_w, i32_w]
    rfl
  refine pure_ (i := 36) (N := some 113) (v := ?_) (a' := ?_) #[true, true, true, true, true, true, true, true, true, true, true, true, true, true, true, true, true, true, true, true, true, true, true, true, true, true, true, true, true, true, true, true, true, true, true, true, true, false, false, false, false, false] rfl rfl (by kernel_rfl) (fun _ _ _ h => h) (Or.inl ⟨by rfl, ?_⟩) ?_ ?_
  rotate_left
  · intro w'
    go_simp
    with_reducible rfl
  rotate_left
  · simp only [Act.put, List.setIfInBounds_toArray, List.set_cons_zero, List.set_cons_succ, i64_w, i32_w]
    rfl
  refine pure_ (i := 37) (N := some 114) (v := ?_) (a' := ?_) #[true, true, true, true, true, true, true, true, true, true, true, true, true, true, true, true, true, true, true, true, true, true, true, true, true, true, true, true, true, true, true, true, true, true, true, true, true, true, false, false, false, false] rfl rfl (by kernel_rfl) (fun _ _ _ h => h) (Or.inl ⟨by rfl, ?_⟩) ?_ ?_
  rotate_left
  · intro w'
    go_simp
    with_reducible rfl
  rotate_left
  · simp only [Act.put, List.setIfInBounds_toArray, List.set_cons_zero, List.set_cons_succ, i64_w, i32_w]
    rfl
  refine one_ (i := 38) (N := some 115) #[true, true, true, true, true, true, true, true, true, true, true, true, true, true, true, true, true, true, true, true, true, true, true, true, true, true, true, true, true, true, true, true, true, true, true, true, true, true, true, false, false, false] rfl rfl (by kernel_rfl) (by decide) (fun K hK => ?_)
  refine goes_ Tryd.func14 (by kernel_rfl) rfl #[.int .i64 1506] (by rfl) rfl rfl (by simp only [List.map_toArray, List.map_cons, List.map_nil]; rfl) ?_
  with_reducible refine (num_is 1506 (Below.refl v1.heap.size v1)).mono ?_
  rintro e v2 ⟨rfl, hb⟩
  refine ⟨_, rfl, ?_⟩
  have BWv2 := Aside0.mk (BWv1.out.trans (hb.mono BWv1.out.size))
  have BXv2 := Aside0.mk (BXv1.out.trans (hb.mono BXv1.out.size))
  clear hb BWv1 BXv1
  refine hK.out _ _ ⟨pw_cell_below BXv2.out Za0.out, pw_cell_below BXv2.out Za1.out, pw_cell_below BXv2.out Zm0.out, pw_cell_below BXv2.out Zm1.out, pw_cell_below BXv2.out Zq13.out, pw_cell_below BXv2.out Zo0.out, pw_cell_below BXv2.out Zo1.out, pw_cell_below BXv2.out Zq24.out⟩ (fun hHeld => ?_)
  clear hK K
  refine norm_ (a' := ?_) ?_ ?_
  rotate_left
  · show Act.put _ (some 115) _ = _
    simp only [Act.put, List.setIfInBounds_toArray, List.set_cons_zero, List.set_cons_succ, i64_w, i32_w]
    rfl
  refine pure_ (i := 39) (N := some 116) (v := ?_) (a' := ?_) #[true, true, true, true, true, true, true, true, true, true, true, true, true, true, true, true, true, true, true, true, true, true, true, true, true, true, true, true, true, true, true, true, true, true, true, true, true, true, true, true, false, false] rfl rfl (by kernel_rfl) (fun _ _ _ h => h) (Or.inl ⟨by rfl, ?_⟩) ?_ ?_
  rotate_left
  · intro w'
    go_simp
    with_reducible rfl
  rotate_left
  · simp only [Act.put, List.setIfInBounds_toArray, List.set_cons_zero, List.set_cons_succ, i64_w, i32_w]
    rfl
  refine pure_ (i := 40) (N := some 117) (v := ?_) (a' := ?_) #[true, true, true, true, true, true, true, true, true, true, true, true, true, true, true, true, true, true, true, true, true, true, true, true, true, true, true, true, true, true, true, true, true, true, true, true, true, true, true, true, true, false] rfl rfl (by kernel_rfl) (fun _ _ _ h => h) (Or.inl ⟨by rfl, ?_⟩) ?_ ?_
  rotate_left
  · intro w'
    go_simp
    with_reducible rfl
  rotate_left
  · simp only [Act.put, List.setIfInBounds_toArray, List.set_cons_zero, List.set_cons_succ, i64_w, i32_w]
    rfl
  refine pure_ (i := 41) (N := some 6) (v := ?_) (a' := ?_) #[true, true, true, true, true, true, true, true, true, true, true, true, true, true, true, true, true, true, true, true, true, true, true, true, true, true, true, true, true, true, true, true, true, true, true, true, true, true, true, true, true, true] rfl rfl (by kernel_rfl) (fun _ _ _ h => h) (Or.inl ⟨by rfl, ?_⟩) ?_ ?_
  rotate_left
  · intro w'
    go_simp
    with_reducible rfl
  rotate_left
  · simp only [Act.put, List.setIfInBounds_toArray, List.set_cons_zero, List.set_cons_succ, i64_w, i32_w]
    rfl
  refine done_ (by kernel_rfl) ?_

  go_wp2
  go_ret
  exact ⟨rfl, BWv2.out⟩
set_option maxHeartbeats 8000000 in
set_option maxRecDepth 100000 in
theorem limits_form (a0 a1 a2 : Int) (x y : Int) (f : Int) (f1 : (f == 1) = false) (f2 : decide (1 < f) = true) (hf : 2 ≤ f ∧ f < 256) (hx : Go.bits .and .i64 a0 4294967295 = x) (hy : Go.bits .and .i64 a1 4294967295 = y) (ef : Go.bits .and .i64 a2 3 % 256 = f) (rx : 0 ≤ x ∧ x < 4294967296) (ry : 0 ≤ y ∧ y < 4294967296) (W : World) (hT : Tabs W) : Calls Tryd.prog 7 #[.int .i64 a0, .int .i64 a1, .int .i64 a2] W fun e w' => e = .returned (.bool true) ∧ Below W.heap.size W w' := by
  have HT := Aside0.mk hT
  have HB0 := Aside0.mk (Below.refl W.heap.size W)
  have zx := lebS_size x
  have zy := lebS_size y
  have s1 : (strOfNums [f]).size = 1 := str_size _
  have eS : limS f x y = (strOfNums [f] ++ lebS x) := by rw [limS, if_neg (by omega)]
  have zS := (limS_size f x y).1
  rw [eS] at zS
  have t2 : (⟨#[1, 112]⟩ : ByteArray).size = 2 := rfl
  have t3 : (⟨#[1, 113]⟩ : ByteArray).size = 2 := rfl
  have t4 : (⟨#[1]⟩ : ByteArray).size = 1 := rfl
  have S4 := Aside0.mk (show ((⟨#[1, 112]⟩ : ByteArray) ++ (strOfNums [f] ++ lebS x)).size ≤ 140737488355328 by rw [ByteArray.size_append]; omega)
  have S5 := Aside0.mk (show ((⟨#[1]⟩ : ByteArray) ++ (strOfNums [f] ++ lebS x)).size ≤ 140737488355328 by rw [ByteArray.size_append]; omega)
  have S4b := Aside0.mk (show ((⟨#[1, 113]⟩ : ByteArray) ++ (strOfNums [f] ++ lebS x)).size ≤ 140737488355328 by rw [ByteArray.size_append]; omega)
  have e4 := limT_er (b := 112) (f := f) (x := x) (y := y) (by omega) (.inr hf.1) ⟨by omega, hf.2⟩
  rw [tab_lim, eS] at e4
  have e5 := limM_er (f := f) (x := x) (y := y) hf
  rw [memS, eS] at e5
  have eb := limT_er (b := 113) (f := f) (x := x) (y := y) (by omega) (.inl (by omega)) ⟨by omega, hf.2⟩
  rw [tab_bad, eS] at eb
  have g0 : 0 ≤ f := by omega
  have g1 : f ≤ 255 := by omega
  have E4 := Aside0.mk e4
  have E5 := Aside0.mk e5
  have EB := Aside0.mk eb
  have z4 := secS_size 4 ((⟨#[1, 112]⟩ : ByteArray) ++ (strOfNums [f] ++ lebS x))
  have z5 := secS_size 5 ((⟨#[1]⟩ : ByteArray) ++ (strOfNums [f] ++ lebS x))
  have z6 := secS_size 4 ((⟨#[1, 113]⟩ : ByteArray) ++ (strOfNums [f] ++ lebS x))
  rw [ByteArray.size_append] at z4 z5 z6
  have n0 := sum_ok (a := (strOfNums [f]).size) (b := (lebS x).size) (by omega)
  have n1 : ¬ 9223372036854775807 < (strOfNums [f]).size + (lebS x).size + (lebS y).size := by omega
  have n1' : ¬ 9223372036854775807 < (strOfNums [f] ++ lebS x).size + (lebS y).size := by rw [ByteArray.size_append]; omega
  have n2 := sum_ok (a := 2) (b := ((strOfNums [f] ++ lebS x)).size) (by omega)
  have n3 := sum_ok (a := 1) (b := ((strOfNums [f] ++ lebS x)).size) (by omega)
  have n4 := sum_ok (a := 8) (b := (secS 4 ((⟨#[1, 112]⟩ : ByteArray) ++ (strOfNums [f] ++ lebS x))).size) (by omega)
  have n5 := sum_ok (a := 8) (b := (secS 5 ((⟨#[1]⟩ : ByteArray) ++ (strOfNums [f] ++ lebS x))).size) (by omega)
  have n6 := sum_ok (a := 8) (b := (secS 4 ((⟨#[1, 113]⟩ : ByteArray) ++ (strOfNums [f] ++ lebS x))).size) (by omega)
  have n2' := n2
  have n3' := n3
  simp only [ByteArray.size_append] at n2' n3'
  clear e4 e5 eb zx zy zS z4 z5 z6 t2 t3 t4 rx ry hT eS s1
  go_enter Tryd.func7, Tryd.ntmps7
  go_wp2_with (first
    | (go_at_call 12; (with_reducible refine (awake_c HT.out HB0.out).mono ?_); rintro e w1 ⟨rfl, hb⟩; have HB1 := Aside0.mk hb; clear hb HB0))
  obtain ⟨WD, hWD⟩ : ∃ WD, WD = w1 := ⟨_, rfl⟩
  subst hWD
  have HR0 : Aside0 (Below W.heap.size W WD.drew) := ⟨below_drew HB1.out⟩
  refine start_ (n := 7) (S := fun w' => True) (ds := []) #[false, false, false, false, false, false, false] (by kernel_rfl) rfl rfl trivial (fun hHeld => ?_)
  refine pure_ (i := 0) (N := some 27) (v := ?_) (a' := ?_) #[true, false, false, false, false, false, false] rfl rfl (by kernel_rfl) (fun _ _ _ h => h) (Or.inl ⟨by rfl, ?_⟩) ?_ ?_
  rotate_left
  · intro w'
    go_simp
    with_reducible rfl
  rotate_left
  · simp only [Act.put, List.setIfInBounds_toArray, List.set_cons_zero, List.set_cons_succ, i64_w, i32_w]
    rfl
  refine pure_ (i := 3) (N := some 30) (v := ?_) (a' := ?_) #[true, false, false, true, false, false, false] rfl rfl (by kernel_rfl) (fun _ _ _ h => h) (Or.inl ⟨by rfl, ?_⟩) ?_ ?_
  rotate_left
  · intro w'
    go_simp
    with_reducible rfl
  rotate_left
  · simp only [Act.put, List.setIfInBounds_toArray, List.set_cons_zero, List.set_cons_succ, i64_w, i32_w]
    rfl
  refine join_ (σ := Value) 2 #[true, true, true, true, true, false, false] (fun s => [(28, s), (29, .string (strOfNums [f])), (31, .string (lebS x))]) (fun s W1 => Below W.heap.size W W1) ?_ ?_
  rotate_left
  · intro hCont
    refine two_ (i := 1) (j := 4) (Ni := some 28) (Nj := some 31) #[true, true, false, true, false, false, false] #[true, false, false, true, true, false, false] rfl rfl rfl rfl (by kernel_rfl) (by decide) (by decide) (fun K hK => ?_) (fun K hK => ?_)
    · skip
      refine lit_step ?hw (N := 28) ?hd (cs := #[.int .u8 f]) (t := 5) (n := 1) ?hr ?_
      case hw => rfl
      case hd => rfl
      case hr => first | (go_simp; done) | (go_simp; rfl)
      intro g hg wr1 hA hb
      have G1 := Aside0.mk hA
      have HR1 := Aside0.mk (below_step HR0.out hb)
      clear hA hb hg HR0
      refine hK.out _ _ trivial (fun hHeld => ?_)
      clear hK K
      refine norm_ (a' := ?_) ?_ ?_
      rotate_left
      · show Act.put _ (some 28) _ = _
        simp only [Act.put, List.setIfInBounds_toArray, List.set_cons_zero, List.set_cons_succ, i64_w, i32_w]
        rfl
      refine two_ (i := 2) (j := 4) (Ni := some 29) (Nj := some 31) #[true, true, true, true, false, false, false] #[true, true, false, true, true, false, false] rfl rfl rfl rfl (by kernel_rfl) (by decide) (by decide) (fun K hK => ?_) (fun K hK => ?_)
      · skip
        refine value_ (w1 := wr1) (v := .string (strOfNums [f])) (by rfl) rfl ?_ ?_
        · exact conv1 (f) G1.out (by rfl)
        refine hK.out _ _ trivial (fun hHeld => ?_)
        clear hK K
        refine norm_ (a' := ?_) ?_ ?_
        rotate_left
        · show Act.put _ (some 29) _ = _
          simp only [Act.put, List.setIfInBounds_toArray, List.set_cons_zero, List.set_cons_succ, i64_w, i32_w]
          rfl
        refine one_ (i := 4) (N := some 31) #[true, true, true, true, true, false, false] rfl rfl (by kernel_rfl) (by decide) (fun K hK => ?_)
        refine goes_ Tryd.func17 (by kernel_rfl) rfl #[.int .i64 x] (by rfl) rfl rfl (by simp only [List.map_toArray, List.map_cons, List.map_nil]; rfl) ?_
        with_reducible refine (leb_is _ (Below.refl wr1.heap.size wr1)).mono ?_
        rintro e wr2 ⟨rfl, hb⟩
        refine ⟨_, rfl, ?_⟩
        have HR2 := Aside0.mk (below_step HR1.out hb)
        have G1b := Aside0.mk (blk_below G1.out hb)
        clear G1
        have G1 := G1b
        clear G1b
        clear hb HR1
        refine hK.out _ _ trivial (fun hHeld => ?_)
        clear hK K
        refine norm_ (a' := ?_) ?_ ?_
        rotate_left
        · show Act.put _ (some 31) _ = _
          simp only [Act.put, List.setIfInBounds_toArray, List.set_cons_zero, List.set_cons_succ, i64_w, i32_w]
          rfl
        exact norm_ (by simp only [putAll, Act.put, List.setIfInBounds_toArray, List.set_cons_zero, List.set_cons_succ]) (hCont (.slice (some ⟨g, 0, none⟩) 1 1) _ HR2.out)
      · skip
        refine goes_ Tryd.func17 (by kernel_rfl) rfl #[.int .i64 x] (by rfl) rfl rfl (by simp only [List.map_toArray, List.map_cons, List.map_nil]; rfl) ?_
        with_reducible refine (leb_is _ (Below.refl wr1.heap.size wr1)).mono ?_
        rintro e wr2 ⟨rfl, hb⟩
        refine ⟨_, rfl, ?_⟩
        have HR2 := Aside0.mk (below_step HR1.out hb)
        have G1b := Aside0.mk (blk_below G1.out hb)
        clear G1
        have G1 := G1b
        clear G1b
        clear hb HR1
        refine hK.out _ _ trivial (fun hHeld => ?_)
        clear hK K
        refine norm_ (a' := ?_) ?_ ?_
        rotate_left
        · show Act.put _ (some 31) _ = _
          simp only [Act.put, List.setIfInBounds_toArray, List.set_cons_zero, List.set_cons_succ, i64_w, i32_w]
          rfl
        refine one_ (i := 2) (N := some 29) #[true, true, true, true, true, false, false] rfl rfl (by kernel_rfl) (by decide) (fun K hK => ?_)
        refine value_ (w1 := wr2) (v := .string (strOfNums [f])) (by rfl) rfl ?_ ?_
        · exact conv1 (f) G1.out (by rfl)
        refine hK.out _ _ trivial (fun hHeld => ?_)
        clear hK K
        refine norm_ (a' := ?_) ?_ ?_
        rotate_left
        · show Act.put _ (some 29) _ = _
          simp only [Act.put, List.setIfInBounds_toArray, List.set_cons_zero, List.set_cons_succ, i64_w, i32_w]
          rfl
        exact norm_ (by simp only [putAll, Act.put, List.setIfInBounds_toArray, List.set_cons_zero, List.set_cons_succ]) (hCont (.slice (some ⟨g, 0, none⟩) 1 1) _ HR2.out)
    · skip
      refine goes_ Tryd.func17 (by kernel_rfl) rfl #[.int .i64 x] (by rfl) rfl rfl (by simp only [List.map_toArray, List.map_cons, List.map_nil]; rfl) ?_
      with_reducible refine (leb_is _ (Below.refl WD.drew.heap.size WD.drew)).mono ?_
      rintro e wr1 ⟨rfl, hb⟩
      refine ⟨_, rfl, ?_⟩
      have HR1 := Aside0.mk (below_step HR0.out hb)
      clear hb HR0
      refine hK.out _ _ trivial (fun hHeld => ?_)
      clear hK K
      refine norm_ (a' := ?_) ?_ ?_
      rotate_left
      · show Act.put _ (some 31) _ = _
        simp only [Act.put, List.setIfInBounds_toArray, List.set_cons_zero, List.set_cons_succ, i64_w, i32_w]
        rfl
      refine one_ (i := 1) (N := some 28) #[true, true, false, true, true, false, false] rfl rfl (by kernel_rfl) (by decide) (fun K hK => ?_)
      refine lit_step ?hw (N := 28) ?hd (cs := #[.int .u8 f]) (t := 5) (n := 1) ?hr ?_
      case hw => rfl
      case hd => rfl
      case hr => first | (go_simp; done) | (go_simp; rfl)
      intro g hg wr2 hA hb
      have G1 := Aside0.mk hA
      have HR2 := Aside0.mk (below_step HR1.out hb)
      clear hA hb hg HR1
      refine hK.out _ _ trivial (fun hHeld => ?_)
      clear hK K
      refine norm_ (a' := ?_) ?_ ?_
      rotate_left
      · show Act.put _ (some 28) _ = _
        simp only [Act.put, List.setIfInBounds_toArray, List.set_cons_zero, List.set_cons_succ, i64_w, i32_w]
        rfl
      refine one_ (i := 2) (N := some 29) #[true, true, true, true, true, false, false] rfl rfl (by kernel_rfl) (by decide) (fun K hK => ?_)
      refine value_ (w1 := wr2) (v := .string (strOfNums [f])) (by rfl) rfl ?_ ?_
      · exact conv1 (f) G1.out (by rfl)
      refine hK.out _ _ trivial (fun hHeld => ?_)
      clear hK K
      refine norm_ (a' := ?_) ?_ ?_
      rotate_left
      · show Act.put _ (some 29) _ = _
        simp only [Act.put, List.setIfInBounds_toArray, List.set_cons_zero, List.set_cons_succ, i64_w, i32_w]
        rfl
      exact norm_ (by simp only [putAll, Act.put, List.setIfInBounds_toArray, List.set_cons_zero, List.set_cons_succ]) (hCont (.slice (some ⟨g, 0, none⟩) 1 1) _ HR2.out)
  rintro sv w4 hb4
  have BW_4 := Aside0.mk hb4
  clear hb4
  have hHeld : True := trivial
  refine norm_ (a' := ?_) ?_ ?_
  rotate_left
  · simp only [putAll, Act.put, List.setIfInBounds_toArray, List.set_cons_zero, List.set_cons_succ]
    rfl
  refine pure_ (i := 5) (N := some 32) (v := ?_) (a' := ?_) #[true, true, true, true, true, true, false] rfl rfl (by kernel_rfl) (fun _ _ _ h => h) (Or.inl ⟨by rfl, ?_⟩) ?_ ?_
  rotate_left
  · intro w'
    go_simp
    with_reducible rfl
  rotate_left
  · simp only [Act.put, List.setIfInBounds_toArray, List.set_cons_zero, List.set_cons_succ, i64_w, i32_w]
    rfl
  refine pure_ (i := 6) (N := some 10) (v := ?_) (a' := ?_) #[true, true, true, true, true, true, true] rfl rfl (by kernel_rfl) (fun _ _ _ h => h) (Or.inl ⟨by rfl, ?_⟩) ?_ ?_
  rotate_left
  · intro w'
    go_simp
    with_reducible rfl
  rotate_left
  · simp only [Act.put, List.setIfInBounds_toArray, List.set_cons_zero, List.set_cons_succ, i64_w, i32_w]
    rfl
  refine done_ (by kernel_rfl) ?_

  clear HB1
  go_wp2_with (first
    | ((with_reducible refine gate_dst (N := 11) rfl ?_); refine box_event ?hg (N := 11) ?hd (cs := #[.int .i64 0, .int .i64 0]) (t := 54) ?hr ?_; (case hd => rfl); (case hg => rfl); (case hr => first | (go_simp; done) | (go_simp; rfl)); intro q0 hgq0 w5 hA hb; have Jq0 := Aside0.mk hA; have Mq0 := Aside0.mk (show W.heap.size ≤ q0 by have := BW_4.out.size; omega); have BW_5 := Aside0.mk (BW_4.out.trans (hb.mono BW_4.out.size)); clear BW_4; clear hA hb hgq0)
    | ((with_reducible refine gate_store (p := 11) rfl ?_); refine storeRow_event (g := q0) rfl rfl rfl (cs := #[.int .i64 x, .int .i64 (-1)]) rfl rfl Jq0.out (by kernel_rfl) rfl (by simp [Value.oneCell']) ?_; intro w6 hA hb ho hs; have BW_6 := Aside0.mk (hb _ _ Mq0.out BW_5.out); clear BW_5; clear Jq0 Mq0; clear hA hb ho hs)
    | (go_at_call 20; (with_reducible refine (section_is 4 _ S4.out (Below.refl w6.heap.size w6)).mono ?_); rintro e w7 ⟨rfl, hb⟩; have BW_7 := Aside0.mk (BW_6.out.trans (hb.mono BW_6.out.size)); clear BW_6; clear hb)
    | (go_at_call 13; (with_reducible refine (mod_er_c E4.out (tabs_below HT.out BW_7.out) (Below.refl w7.heap.size w7)).mono ?_); rintro e w8 ⟨rfl, hb⟩; have BW_8 := Aside0.mk (BW_7.out.trans (hb.mono BW_7.out.size)); clear BW_7; clear hb)
    | ((with_reducible refine gate_dst (N := 12) rfl ?_); refine box_event ?hg (N := 12) ?hd (cs := #[.slice none 0 0, .slice none 0 0, .slice none 0 0, .slice none 0 0, .slice none 0 0, .slice none 0 0, .slice none 0 0, .int .i64 0, .slice none 0 0, .slice none 0 0, .slice none 0 0]) (t := 33) ?hr ?_; (case hd => rfl); (case hg => rfl); (case hr => first | (go_simp; done) | (go_simp; rfl)); intro q1 hgq1 w9 hA hb; have Jq1 := Aside0.mk hA; have Mq1 := Aside0.mk (show W.heap.size ≤ q1 by have := BW_8.out.size; omega); have BW_9 := Aside0.mk (BW_8.out.trans (hb.mono BW_8.out.size)); clear BW_8; clear hA hb hgq1)
    | ((with_reducible refine gate_store (p := 12) rfl ?_); refine storeRow_event (g := q1) rfl rfl rfl (cs := #[.slice none 0 0, .slice none 0 0, .slice none 0 0, .slice none 0 0, .slice none 0 0, .slice none 0 0, .slice none 0 0, .int .i64 0, .slice none 0 0, .slice none 0 0, .slice none 0 0]) rfl rfl Jq1.out (by kernel_rfl) rfl (by simp [Value.oneCell']) ?_; intro w10 hA hb ho hs; have BW_10 := Aside0.mk (hb _ _ Mq1.out BW_9.out); clear BW_9; clear Jq1 Mq1; clear hA hb ho hs)
    | (go_at_call 20; (with_reducible refine (section_is 5 _ S5.out (Below.refl w10.heap.size w10)).mono ?_); rintro e w11 ⟨rfl, hb⟩; have BW_11 := Aside0.mk (BW_10.out.trans (hb.mono BW_10.out.size)); clear BW_10; clear hb)
    | (go_at_call 13; (with_reducible refine (mod_er_c E5.out (tabs_below HT.out BW_11.out) (Below.refl w11.heap.size w11)).mono ?_); rintro e w12 ⟨rfl, hb⟩; have BW_12 := Aside0.mk (BW_11.out.trans (hb.mono BW_11.out.size)); clear BW_11; clear hb)
    | ((with_reducible refine gate_dst (N := 14) rfl ?_); refine box_event ?hg (N := 14) ?hd (cs := #[.slice none 0 0, .slice none 0 0, .slice none 0 0, .slice none 0 0, .slice none 0 0, .slice none 0 0, .slice none 0 0, .int .i64 0, .slice none 0 0, .slice none 0 0, .slice none 0 0]) (t := 33) ?hr ?_; (case hd => rfl); (case hg => rfl); (case hr => first | (go_simp; done) | (go_simp; rfl)); intro q2 hgq2 w13 hA hb; have Jq2 := Aside0.mk hA; have Mq2 := Aside0.mk (show W.heap.size ≤ q2 by have := BW_12.out.size; omega); have BW_13 := Aside0.mk (BW_12.out.trans (hb.mono BW_12.out.size)); clear BW_12; clear hA hb hgq2)
    | ((with_reducible refine gate_store (p := 14) rfl ?_); refine storeRow_event (g := q2) rfl rfl rfl (cs := #[.slice none 0 0, .slice none 0 0, .slice none 0 0, .slice none 0 0, .slice none 0 0, .slice none 0 0, .slice none 0 0, .int .i64 0, .slice none 0 0, .slice none 0 0, .slice none 0 0]) rfl rfl Jq2.out (by kernel_rfl) rfl (by simp [Value.oneCell']) ?_; intro w14 hA hb ho hs; have BW_14 := Aside0.mk (hb _ _ Mq2.out BW_13.out); clear BW_13; clear Jq2 Mq2; clear hA hb ho hs)
    | (go_at_call 20; (with_reducible refine (section_is 4 _ S4b.out (Below.refl w14.heap.size w14)).mono ?_); rintro e w15 ⟨rfl, hb⟩; have BW_15 := Aside0.mk (BW_14.out.trans (hb.mono BW_14.out.size)); clear BW_14; clear hb)
    | (go_at_call 13; (with_reducible refine (mod_er_c EB.out (tabs_below HT.out BW_15.out) (Below.refl w15.heap.size w15)).mono ?_); rintro e w16 ⟨rfl, hb⟩; have BW_16 := Aside0.mk (BW_15.out.trans (hb.mono BW_15.out.size)); clear BW_15; clear hb)
    | ((with_reducible refine gate_dst (N := 16) rfl ?_); refine box_event ?hg (N := 16) ?hd (cs := #[.slice none 0 0, .slice none 0 0, .slice none 0 0, .slice none 0 0, .slice none 0 0, .slice none 0 0, .slice none 0 0, .int .i64 0, .slice none 0 0, .slice none 0 0, .slice none 0 0]) (t := 33) ?hr ?_; (case hd => rfl); (case hg => rfl); (case hr => first | (go_simp; done) | (go_simp; rfl)); intro q3 hgq3 w17 hA hb; have Jq3 := Aside0.mk hA; have Mq3 := Aside0.mk (show W.heap.size ≤ q3 by have := BW_16.out.size; omega); have BW_17 := Aside0.mk (BW_16.out.trans (hb.mono BW_16.out.size)); clear BW_16; clear hA hb hgq3)
    | ((with_reducible refine gate_store (p := 16) rfl ?_); refine storeRow_event (g := q3) rfl rfl rfl (cs := #[.slice none 0 0, .slice none 0 0, .slice none 0 0, .slice none 0 0, .slice none 0 0, .slice none 0 0, .slice none 0 0, .int .i64 0, .slice none 0 0, .slice none 0 0, .slice none 0 0]) rfl rfl Jq3.out (by kernel_rfl) rfl (by simp [Value.oneCell']) ?_; intro w18 hA hb ho hs; have BW_18 := Aside0.mk (hb _ _ Mq3.out BW_17.out); clear BW_17; clear Jq3 Mq3; clear hA hb ho hs)
    | (go_at_call 14; (with_reducible refine (num_is _ (Below.refl w18.heap.size w18)).mono ?_); rintro e w19 ⟨rfl, hb⟩; have BW_19 := Aside0.mk (BW_18.out.trans (hb.mono BW_18.out.size)); clear BW_18; clear hb)
    | (go_at_call 14; (with_reducible refine (num_is _ (Below.refl w19.heap.size w19)).mono ?_); rintro e w20 ⟨rfl, hb⟩; have BW_20 := Aside0.mk (BW_19.out.trans (hb.mono BW_19.out.size)); clear BW_19; clear hb))
  go_ret
  exact ⟨rfl, BW_20.out⟩
theorem limits_calls (a0 a1 a2 : Int) (W : World) (hT : Tabs W) : Calls Tryd.prog 7 #[.int .i64 a0, .int .i64 a1, .int .i64 a2] W fun e w' => e = .returned (.bool true) ∧ Below W.heap.size W w' := by
  have m32 : ∀ a : Int, Go.bits .and .i64 a 4294967295 = a % 4294967296 := fun a => by
    have := LebMath.and_mask a 32 (by decide) 4294967295 (by decide)
    simpa using this
  have m3 : Go.bits .and .i64 a2 3 = a2 % 4 := by
    have := LebMath.and_mask a2 2 (by decide) 3 (by decide)
    simpa using this
  have rx : 0 ≤ Go.bits .and .i64 a0 4294967295 ∧ Go.bits .and .i64 a0 4294967295 < 4294967296 := by rw [m32]; omega
  have ry : 0 ≤ Go.bits .and .i64 a1 4294967295 ∧ Go.bits .and .i64 a1 4294967295 < 4294967296 := by rw [m32]; omega
  obtain ⟨f, hf⟩ : ∃ f, Go.bits .and .i64 a2 3 % 256 = f := ⟨_, rfl⟩
  have rf : 0 ≤ f ∧ f < 4 := by rw [← hf, m3]; omega
  by_cases h0 : f = 0
  · subst h0; exact limits_zero a0 a1 a2 _ _ rfl rfl hf rx ry W hT
  by_cases h1 : f = 1
  · subst h1; exact limits_one a0 a1 a2 _ _ rfl rfl hf rx ry W hT
  · exact limits_form a0 a1 a2 _ _ f (beq_eq_false_iff_ne.2 h1) (decide_eq_true (by omega)) (by omega) rfl rfl hf rx ry W hT
end Go.Proofs.YtkdoijfjceeblaaDoor.EDec
