/-
  What the claim leans on, in the order of its making: words about values and worlds, the printed functions, the decoder in plain words and its walk. Cut to what is used by wip/tools/prune15.py. (EDecCounts)
-/
import Derived.Test.YtkdoijfjceeblaaDoorQEDecZ
namespace Go.Proofs.YtkdoijfjceeblaaDoor.EDec
open Go Go.RowKit Go.Proofs.YtkdoijfjceeblaaDoor.F Go.Proofs.YtkdoijfjceeblaaDoorW.Hand Go.Proofs.YtkdoijfjceeblaaDoorW.PrintWords Go.Proofs.YtkdoijfjceeblaaDoorW.PrintLast Go.Proofs.YtkdoijfjceeblaaDoorW.PrintMore
open Go.Proofs.YtkdoijfjceeblaaDoor.LebGets (G)
open Go.Proofs.YtkdoijfjceeblaaDoor.ENames (Tabs tabs_below nget nmay)
open Go.Proofs.YtkdoijfjceeblaaDoor.EInstr (GRes pGet get_b ret_int wrap_bt)
set_option linter.unusedVariables false
set_option linter.unusedSimpArgs false
def fS (x i : Nat) : ByteArray := strOfNums (((x : Int) % 256) :: List.replicate i 0)
def cS (y i : Nat) : ByteArray := strOfNums (((y : Int) % 256) :: (List.replicate i [(2 : Int), 0, 11]).flatten)
theorem fS_next (x i : Nat) : fS x i ++ ⟨#[0]⟩ = fS x (i + 1) := by
  rw [fS, fS, List.replicate_succ', ← List.cons_append, str_app]; rfl
theorem cS_next (y i : Nat) : cS y i ++ ⟨#[2, 0, 11]⟩ = cS y (i + 1) := by
  rw [cS, cS, List.replicate_succ', List.flatten_append, ← List.cons_append, str_app]; rfl
theorem fS_size (x i : Nat) : (fS x i).size = 1 + i := by
  rw [fS, str_size]; simp; omega
theorem cS_size (y i : Nat) : (cS y i).size = 1 + 3 * i := by
  rw [cS, str_size]; simp [List.length_flatten]; omega
def chkCounts (x y : Nat) : Bool := match dMod (({ data := #[0, 97, 115, 109, 1, 0, 0, 0] } : ByteArray) ++ secS 3 (fS x x) ++ secS 10 (cS y y)) with
  | .ok m => x == y && m.funcs.length == x && m.codes.length == x
  | .error c => c == 1505 && x != y
theorem chk_counts : ((List.range 8).all fun x => (List.range 8).all fun y => chkCounts x y) = true := by kernel_rfl
theorem counts_er {x y : Nat} (hx : x < 8) (hy : y < 8) (h : x ≠ y) : dMod (({ data := #[0, 97, 115, 109, 1, 0, 0, 0] } : ByteArray) ++ secS 3 (fS x x) ++ secS 10 (cS y y)) = .error 1505 := by
  have c := List.all_eq_true.1 (List.all_eq_true.1 chk_counts x (List.mem_range.2 hx)) y (List.mem_range.2 hy)
  unfold chkCounts at c
  cases hd : dMod (({ data := #[0, 97, 115, 109, 1, 0, 0, 0] } : ByteArray) ++ secS 3 (fS x x) ++ secS 10 (cS y y)) with
  | ok m => rw [hd] at c; simp [h] at c
  | error e => rw [hd] at c; simp only [Bool.and_eq_true] at c; rw [eq_of_beq c.1]
theorem counts_ok {x y : Nat} (hx : x < 8) (hy : y < 8) (h : x = y) : ∃ m, dMod (({ data := #[0, 97, 115, 109, 1, 0, 0, 0] } : ByteArray) ++ secS 3 (fS x x) ++ secS 10 (cS y y)) = .ok m ∧ m.funcs.length = x ∧ m.codes.length = x := by
  have c := List.all_eq_true.1 (List.all_eq_true.1 chk_counts x (List.mem_range.2 hx)) y (List.mem_range.2 hy)
  unfold chkCounts at c
  cases hd : dMod (({ data := #[0, 97, 115, 109, 1, 0, 0, 0] } : ByteArray) ++ secS 3 (fS x x) ++ secS 10 (cS y y)) with
  | ok m => rw [hd] at c; simp only [Bool.and_eq_true] at c; exact ⟨m, rfl, eq_of_beq c.1.2, eq_of_beq c.2⟩
  | error e => rw [hd] at c; simp [h] at c
set_option maxHeartbeats 4000000 in
set_option maxRecDepth 100000 in
theorem counts_eq (a0 a1 : Int) (x y : Nat) (ex : Go.bits .and .i64 a0 7 = (x : Int)) (ey : Go.bits .and .i64 a1 7 = (y : Int)) (hx : x < 8) (hy : y < 8) (hxy : x = y) (W : World) (hT : Tabs W) : Calls Tryd.prog 10 #[.int .i64 a0, .int .i64 a1] W fun e w' => e = .returned (.bool true) ∧ Below W.heap.size W w' := by
  have HT := Aside0.mk hT
  have HB0 := Aside0.mk (Below.refl W.heap.size W)
  obtain ⟨m, hm, f2, f9⟩ := counts_ok hx hy hxy
  subst hxy
  have HM := Aside0.mk hm
  have F2 := Aside0.mk f2
  have F9 := Aside0.mk f9
  clear hm f2 f9
  have Z1 := Aside0.mk (show (fS x x).size ≤ 140737488355328 by rw [fS_size]; omega)
  have Z2 := Aside0.mk (show (cS x x).size ≤ 140737488355328 by rw [cS_size]; omega)
  have X8 := Aside0.mk hx
  have x0 : (0 : Int) ≤ (x : Int) := by omega
  have x7 : (x : Int) ≤ 7 := by omega
  have n1 := sum_ok (a := 8) (b := (secS 3 (fS x x)).size) (by have := secS_size 3 (fS x x); have := fS_size x x; omega)
  have n2 : ¬ 9223372036854775807 < 8 + (secS 3 (fS x x)).size + (secS 10 (cS x x)).size := by have := secS_size 3 (fS x x); have := fS_size x x; have := secS_size 10 (cS x x); have := cS_size x x; omega
  clear hT hx hy
  go_enter Tryd.func10, Tryd.ntmps10
  go_wp2_with (first
    | (go_at_call 12; (with_reducible refine (awake_c HT.out HB0.out).mono ?_); rintro e w1 ⟨rfl, hb⟩; have HB1 := Aside0.mk hb; clear hb HB0))
  obtain ⟨WD, hWD⟩ : ∃ WD, WD = w1 := ⟨_, rfl⟩
  subst hWD
  have HR0 : Aside0 (Below W.heap.size W WD.drew) := ⟨below_drew HB1.out⟩
  refine start_ (n := 10) (S := fun w' => True) (ds := []) #[false, false, false, false, false, false, false, false, false, false] (by kernel_rfl) rfl rfl trivial (fun hHeld => ?_)
  refine pure_ (i := 0) (N := some 19) (v := ?_) (a' := ?_) #[true, false, false, false, false, false, false, false, false, false] rfl rfl (by kernel_rfl) (fun _ _ _ h => h) (Or.inl ⟨by rfl, ?_⟩) ?_ ?_
  rotate_left
  · intro w'
    go_simp
    with_reducible rfl
  rotate_left
  · simp only [Act.put, List.setIfInBounds_toArray, List.set_cons_zero, List.set_cons_succ, i64_w, i32_w]
    rfl
  refine pure_ (i := 1) (N := some 20) (v := ?_) (a' := ?_) #[true, true, false, false, false, false, false, false, false, false] rfl rfl (by kernel_rfl) (fun _ _ _ h => h) (Or.inl ⟨by rfl, ?_⟩) ?_ ?_
  rotate_left
  · intro w'
    go_simp
    with_reducible rfl
  rotate_left
  · simp only [Act.put, List.setIfInBounds_toArray, List.set_cons_zero, List.set_cons_succ, i64_w, i32_w]
    rfl
  refine pure_ (i := 4) (N := some 23) (v := ?_) (a' := ?_) #[true, true, false, false, true, false, false, false, false, false] rfl rfl (by kernel_rfl) (fun _ _ _ h => h) (Or.inl ⟨by rfl, ?_⟩) ?_ ?_
  rotate_left
  · intro w'
    go_simp
    with_reducible rfl
  rotate_left
  · simp only [Act.put, List.setIfInBounds_toArray, List.set_cons_zero, List.set_cons_succ, i64_w, i32_w]
    rfl
  refine pure_ (i := 5) (N := some 24) (v := ?_) (a' := ?_) #[true, true, false, false, true, true, false, false, false, false] rfl rfl (by kernel_rfl) (fun _ _ _ h => h) (Or.inl ⟨by rfl, ?_⟩) ?_ ?_
  rotate_left
  · intro w'
    go_simp
    with_reducible rfl
  rotate_left
  · simp only [Act.put, List.setIfInBounds_toArray, List.set_cons_zero, List.set_cons_succ, i64_w, i32_w]
    rfl
  refine join_ (σ := Value × Value) 1 #[true, true, true, true, true, true, true, true, true, false] (fun s => [(21, s.1), (22, .string (strOfNums [(x : Int) % 256])), (25, s.2), (26, .string (strOfNums [(x : Int) % 256])), (7, .string (strOfNums [(x : Int) % 256]))]) (fun s W1 => Below W.heap.size W W1) ?_ ?_
  rotate_left
  · intro hCont
    refine two_ (i := 2) (j := 6) (Ni := some 21) (Nj := some 25) #[true, true, true, false, true, true, false, false, false, false] #[true, true, false, false, true, true, true, false, false, false] rfl rfl rfl rfl (by kernel_rfl) (by decide) (by decide) (fun K hK => ?_) (fun K hK => ?_)
    · skip
      refine lit_step ?hw (N := 21) ?hd (cs := #[.int .u8 ((x : Int) % 256)]) (t := 5) (n := 1) ?hr ?_
      case hw => rfl
      case hd => rfl
      case hr => first | (go_simp; done) | (go_simp; rfl)
      intro ga hg wr1 hA hb
      have Gga := Aside0.mk hA
      have HR1 := Aside0.mk (below_step HR0.out hb)
      clear hA hb hg HR0
      refine hK.out _ _ trivial (fun hHeld => ?_)
      clear hK K
      refine norm_ (a' := ?_) ?_ ?_
      rotate_left
      · show Act.put _ (some 21) _ = _
        simp only [Act.put, List.setIfInBounds_toArray, List.set_cons_zero, List.set_cons_succ, i64_w, i32_w]
        rfl
      refine two_ (i := 3) (j := 6) (Ni := some 22) (Nj := some 25) #[true, true, true, true, true, true, false, false, false, false] #[true, true, true, false, true, true, true, false, false, false] rfl rfl rfl rfl (by kernel_rfl) (by decide) (by decide) (fun K hK => ?_) (fun K hK => ?_)
      · skip
        refine value_ (w1 := wr1) (v := .string (strOfNums [(x : Int) % 256])) (by rfl) rfl ?_ ?_
        · exact conv1 ((x : Int) % 256) Gga.out (by rfl)
        refine hK.out _ _ trivial (fun hHeld => ?_)
        clear hK K
        refine norm_ (a' := ?_) ?_ ?_
        rotate_left
        · show Act.put _ (some 22) _ = _
          simp only [Act.put, List.setIfInBounds_toArray, List.set_cons_zero, List.set_cons_succ, i64_w, i32_w]
          rfl
        refine pure_ (i := 8) (N := some 7) (v := ?_) (a' := ?_) #[true, true, true, true, true, true, false, false, true, false] rfl rfl (by kernel_rfl) (fun _ _ _ h => h) (Or.inl ⟨by rfl, ?_⟩) ?_ ?_
        rotate_left
        · intro w'
          go_simp
          with_reducible rfl
        rotate_left
        · simp only [Act.put, List.setIfInBounds_toArray, List.set_cons_zero, List.set_cons_succ, i64_w, i32_w]
          rfl
        refine one_ (i := 6) (N := some 25) #[true, true, true, true, true, true, true, false, true, false] rfl rfl (by kernel_rfl) (by decide) (fun K hK => ?_)
        refine lit_step ?hw (N := 25) ?hd (cs := #[.int .u8 ((x : Int) % 256)]) (t := 5) (n := 1) ?hr ?_
        case hw => rfl
        case hd => rfl
        case hr => first | (go_simp; done) | (go_simp; rfl)
        intro gb hg wr2 hA hb
        have Ggb := Aside0.mk hA
        have HR2 := Aside0.mk (below_step HR1.out hb)
        have Ggab := Aside0.mk (blk_below Gga.out hb)
        clear Gga
        have Gga := Ggab
        clear Ggab
        clear hA hb hg HR1
        refine hK.out _ _ trivial (fun hHeld => ?_)
        clear hK K
        refine norm_ (a' := ?_) ?_ ?_
        rotate_left
        · show Act.put _ (some 25) _ = _
          simp only [Act.put, List.setIfInBounds_toArray, List.set_cons_zero, List.set_cons_succ, i64_w, i32_w]
          rfl
        refine one_ (i := 7) (N := some 26) #[true, true, true, true, true, true, true, true, true, false] rfl rfl (by kernel_rfl) (by decide) (fun K hK => ?_)
        refine value_ (w1 := wr2) (v := .string (strOfNums [(x : Int) % 256])) (by rfl) rfl ?_ ?_
        · exact conv1 ((x : Int) % 256) Ggb.out (by rfl)
        refine hK.out _ _ trivial (fun hHeld => ?_)
        clear hK K
        refine norm_ (a' := ?_) ?_ ?_
        rotate_left
        · show Act.put _ (some 26) _ = _
          simp only [Act.put, List.setIfInBounds_toArray, List.set_cons_zero, List.set_cons_succ, i64_w, i32_w]
          rfl
        exact norm_ (by simp only [putAll, Act.put, List.setIfInBounds_toArray, List.set_cons_zero, List.set_cons_succ]) (hCont (.slice (some ⟨ga, 0, none⟩) 1 1, .slice (some ⟨gb, 0, none⟩) 1 1) _ HR2.out)
      · skip
        refine lit_step ?hw (N := 25) ?hd (cs := #[.int .u8 ((x : Int) % 256)]) (t := 5) (n := 1) ?hr ?_
        case hw => rfl
        case hd => rfl
        case hr => first | (go_simp; done) | (go_simp; rfl)
        intro gb hg wr2 hA hb
        have Ggb := Aside0.mk hA
        have HR2 := Aside0.mk (below_step HR1.out hb)
        have Ggab := Aside0.mk (blk_below Gga.out hb)
        clear Gga
        have Gga := Ggab
        clear Ggab
        clear hA hb hg HR1
        refine hK.out _ _ trivial (fun hHeld => ?_)
        clear hK K
        refine norm_ (a' := ?_) ?_ ?_
        rotate_left
        · show Act.put _ (some 25) _ = _
          simp only [Act.put, List.setIfInBounds_toArray, List.set_cons_zero, List.set_cons_succ, i64_w, i32_w]
          rfl
        refine two_ (i := 3) (j := 7) (Ni := some 22) (Nj := some 26) #[true, true, true, true, true, true, true, false, false, false] #[true, true, true, false, true, true, true, true, false, false] rfl rfl rfl rfl (by kernel_rfl) (by decide) (by decide) (fun K hK => ?_) (fun K hK => ?_)
        · skip
          refine value_ (w1 := wr2) (v := .string (strOfNums [(x : Int) % 256])) (by rfl) rfl ?_ ?_
          · exact conv1 ((x : Int) % 256) Gga.out (by rfl)
          refine hK.out _ _ trivial (fun hHeld => ?_)
          clear hK K
          refine norm_ (a' := ?_) ?_ ?_
          rotate_left
          · show Act.put _ (some 22) _ = _
            simp only [Act.put, List.setIfInBounds_toArray, List.set_cons_zero, List.set_cons_succ, i64_w, i32_w]
            rfl
          refine pure_ (i := 8) (N := some 7) (v := ?_) (a' := ?_) #[true, true, true, true, true, true, true, false, true, false] rfl rfl (by kernel_rfl) (fun _ _ _ h => h) (Or.inl ⟨by rfl, ?_⟩) ?_ ?_
          rotate_left
          · intro w'
            go_simp
            with_reducible rfl
          rotate_left
          · simp only [Act.put, List.setIfInBounds_toArray, List.set_cons_zero, List.set_cons_succ, i64_w, i32_w]
            rfl
          refine one_ (i := 7) (N := some 26) #[true, true, true, true, true, true, true, true, true, false] rfl rfl (by kernel_rfl) (by decide) (fun K hK => ?_)
          refine value_ (w1 := wr2) (v := .string (strOfNums [(x : Int) % 256])) (by rfl) rfl ?_ ?_
          · exact conv1 ((x : Int) % 256) Ggb.out (by rfl)
          refine hK.out _ _ trivial (fun hHeld => ?_)
          clear hK K
          refine norm_ (a' := ?_) ?_ ?_
          rotate_left
          · show Act.put _ (some 26) _ = _
            simp only [Act.put, List.setIfInBounds_toArray, List.set_cons_zero, List.set_cons_succ, i64_w, i32_w]
            rfl
          exact norm_ (by simp only [putAll, Act.put, List.setIfInBounds_toArray, List.set_cons_zero, List.set_cons_succ]) (hCont (.slice (some ⟨ga, 0, none⟩) 1 1, .slice (some ⟨gb, 0, none⟩) 1 1) _ HR2.out)
        · skip
          refine value_ (w1 := wr2) (v := .string (strOfNums [(x : Int) % 256])) (by rfl) rfl ?_ ?_
          · exact conv1 ((x : Int) % 256) Ggb.out (by rfl)
          refine hK.out _ _ trivial (fun hHeld => ?_)
          clear hK K
          refine norm_ (a' := ?_) ?_ ?_
          rotate_left
          · show Act.put _ (some 26) _ = _
            simp only [Act.put, List.setIfInBounds_toArray, List.set_cons_zero, List.set_cons_succ, i64_w, i32_w]
            rfl
          refine one_ (i := 3) (N := some 22) #[true, true, true, true, true, true, true, true, false, false] rfl rfl (by kernel_rfl) (by decide) (fun K hK => ?_)
          refine value_ (w1 := wr2) (v := .string (strOfNums [(x : Int) % 256])) (by rfl) rfl ?_ ?_
          · exact conv1 ((x : Int) % 256) Gga.out (by rfl)
          refine hK.out _ _ trivial (fun hHeld => ?_)
          clear hK K
          refine norm_ (a' := ?_) ?_ ?_
          rotate_left
          · show Act.put _ (some 22) _ = _
            simp only [Act.put, List.setIfInBounds_toArray, List.set_cons_zero, List.set_cons_succ, i64_w, i32_w]
            rfl
          refine pure_ (i := 8) (N := some 7) (v := ?_) (a' := ?_) #[true, true, true, true, true, true, true, true, true, false] rfl rfl (by kernel_rfl) (fun _ _ _ h => h) (Or.inl ⟨by rfl, ?_⟩) ?_ ?_
          rotate_left
          · intro w'
            go_simp
            with_reducible rfl
          rotate_left
          · simp only [Act.put, List.setIfInBounds_toArray, List.set_cons_zero, List.set_cons_succ, i64_w, i32_w]
            rfl
          exact norm_ (by simp only [putAll, Act.put, List.setIfInBounds_toArray, List.set_cons_zero, List.set_cons_succ]) (hCont (.slice (some ⟨ga, 0, none⟩) 1 1, .slice (some ⟨gb, 0, none⟩) 1 1) _ HR2.out)
    · skip
      refine lit_step ?hw (N := 25) ?hd (cs := #[.int .u8 ((x : Int) % 256)]) (t := 5) (n := 1) ?hr ?_
      case hw => rfl
      case hd => rfl
      case hr => first | (go_simp; done) | (go_simp; rfl)
      intro gb hg wr1 hA hb
      have Ggb := Aside0.mk hA
      have HR1 := Aside0.mk (below_step HR0.out hb)
      clear hA hb hg HR0
      refine hK.out _ _ trivial (fun hHeld => ?_)
      clear hK K
      refine norm_ (a' := ?_) ?_ ?_
      rotate_left
      · show Act.put _ (some 25) _ = _
        simp only [Act.put, List.setIfInBounds_toArray, List.set_cons_zero, List.set_cons_succ, i64_w, i32_w]
        rfl
      refine two_ (i := 2) (j := 7) (Ni := some 21) (Nj := some 26) #[true, true, true, false, true, true, true, false, false, false] #[true, true, false, false, true, true, true, true, false, false] rfl rfl rfl rfl (by kernel_rfl) (by decide) (by decide) (fun K hK => ?_) (fun K hK => ?_)
      · skip
        refine lit_step ?hw (N := 21) ?hd (cs := #[.int .u8 ((x : Int) % 256)]) (t := 5) (n := 1) ?hr ?_
        case hw => rfl
        case hd => rfl
        case hr => first | (go_simp; done) | (go_simp; rfl)
        intro ga hg wr2 hA hb
        have Gga := Aside0.mk hA
        have HR2 := Aside0.mk (below_step HR1.out hb)
        have Ggbb := Aside0.mk (blk_below Ggb.out hb)
        clear Ggb
        have Ggb := Ggbb
        clear Ggbb
        clear hA hb hg HR1
        refine hK.out _ _ trivial (fun hHeld => ?_)
        clear hK K
        refine norm_ (a' := ?_) ?_ ?_
        rotate_left
        · show Act.put _ (some 21) _ = _
          simp only [Act.put, List.setIfInBounds_toArray, List.set_cons_zero, List.set_cons_succ, i64_w, i32_w]
          rfl
        refine two_ (i := 3) (j := 7) (Ni := some 22) (Nj := some 26) #[true, true, true, true, true, true, true, false, false, false] #[true, true, true, false, true, true, true, true, false, false] rfl rfl rfl rfl (by kernel_rfl) (by decide) (by decide) (fun K hK => ?_) (fun K hK => ?_)
        · skip
          refine value_ (w1 := wr2) (v := .string (strOfNums [(x : Int) % 256])) (by rfl) rfl ?_ ?_
          · exact conv1 ((x : Int) % 256) Gga.out (by rfl)
          refine hK.out _ _ trivial (fun hHeld => ?_)
          clear hK K
          refine norm_ (a' := ?_) ?_ ?_
          rotate_left
          · show Act.put _ (some 22) _ = _
            simp only [Act.put, List.setIfInBounds_toArray, List.set_cons_zero, List.set_cons_succ, i64_w, i32_w]
            rfl
          refine pure_ (i := 8) (N := some 7) (v := ?_) (a' := ?_) #[true, true, true, true, true, true, true, false, true, false] rfl rfl (by kernel_rfl) (fun _ _ _ h => h) (Or.inl ⟨by rfl, ?_⟩) ?_ ?_
          rotate_left
          · intro w'
            go_simp
            with_reducible rfl
          rotate_left
          · simp only [Act.put, List.setIfInBounds_toArray, List.set_cons_zero, List.set_cons_succ, i64_w, i32_w]
            rfl
          refine one_ (i := 7) (N := some 26) #[true, true, true, true, true, true, true, true, true, false] rfl rfl (by kernel_rfl) (by decide) (fun K hK => ?_)
          refine value_ (w1 := wr2) (v := .string (strOfNums [(x : Int) % 256])) (by rfl) rfl ?_ ?_
          · exact conv1 ((x : Int) % 256) Ggb.out (by rfl)
          refine hK.out _ _ trivial (fun hHeld => ?_)
          clear hK K
          refine norm_ (a' := ?_) ?_ ?_
          rotate_left
          · show Act.put _ (some 26) _ = _
            simp only [Act.put, List.setIfInBounds_toArray, List.set_cons_zero, List.set_cons_succ, i64_w, i32_w]
            rfl
          exact norm_ (by simp only [putAll, Act.put, List.setIfInBounds_toArray, List.set_cons_zero, List.set_cons_succ]) (hCont (.slice (some ⟨ga, 0, none⟩) 1 1, .slice (some ⟨gb, 0, none⟩) 1 1) _ HR2.out)
        · skip
          refine value_ (w1 := wr2) (v := .string (strOfNums [(x : Int) % 256])) (by rfl) rfl ?_ ?_
          · exact conv1 ((x : Int) % 256) Ggb.out (by rfl)
          refine hK.out _ _ trivial (fun hHeld => ?_)
          clear hK K
          refine norm_ (a' := ?_) ?_ ?_
          rotate_left
          · show Act.put _ (some 26) _ = _
            simp only [Act.put, List.setIfInBounds_toArray, List.set_cons_zero, List.set_cons_succ, i64_w, i32_w]
            rfl
          refine one_ (i := 3) (N := some 22) #[true, true, true, true, true, true, true, true, false, false] rfl rfl (by kernel_rfl) (by decide) (fun K hK => ?_)
          refine value_ (w1 := wr2) (v := .string (strOfNums [(x : Int) % 256])) (by rfl) rfl ?_ ?_
          · exact conv1 ((x : Int) % 256) Gga.out (by rfl)
          refine hK.out _ _ trivial (fun hHeld => ?_)
          clear hK K
          refine norm_ (a' := ?_) ?_ ?_
          rotate_left
          · show Act.put _ (some 22) _ = _
            simp only [Act.put, List.setIfInBounds_toArray, List.set_cons_zero, List.set_cons_succ, i64_w, i32_w]
            rfl
          refine pure_ (i := 8) (N := some 7) (v := ?_) (a' := ?_) #[true, true, true, true, true, true, true, true, true, false] rfl rfl (by kernel_rfl) (fun _ _ _ h => h) (Or.inl ⟨by rfl, ?_⟩) ?_ ?_
          rotate_left
          · intro w'
            go_simp
            with_reducible rfl
          rotate_left
          · simp only [Act.put, List.setIfInBounds_toArray, List.set_cons_zero, List.set_cons_succ, i64_w, i32_w]
            rfl
          exact norm_ (by simp only [putAll, Act.put, List.setIfInBounds_toArray, List.set_cons_zero, List.set_cons_succ]) (hCont (.slice (some ⟨ga, 0, none⟩) 1 1, .slice (some ⟨gb, 0, none⟩) 1 1) _ HR2.out)
      · skip
        refine value_ (w1 := wr1) (v := .string (strOfNums [(x : Int) % 256])) (by rfl) rfl ?_ ?_
        · exact conv1 ((x : Int) % 256) Ggb.out (by rfl)
        refine hK.out _ _ trivial (fun hHeld => ?_)
        clear hK K
        refine norm_ (a' := ?_) ?_ ?_
        rotate_left
        · show Act.put _ (some 26) _ = _
          simp only [Act.put, List.setIfInBounds_toArray, List.set_cons_zero, List.set_cons_succ, i64_w, i32_w]
          rfl
        refine one_ (i := 2) (N := some 21) #[true, true, true, false, true, true, true, true, false, false] rfl rfl (by kernel_rfl) (by decide) (fun K hK => ?_)
        refine lit_step ?hw (N := 21) ?hd (cs := #[.int .u8 ((x : Int) % 256)]) (t := 5) (n := 1) ?hr ?_
        case hw => rfl
        case hd => rfl
        case hr => first | (go_simp; done) | (go_simp; rfl)
        intro ga hg wr2 hA hb
        have Gga := Aside0.mk hA
        have HR2 := Aside0.mk (below_step HR1.out hb)
        have Ggbb := Aside0.mk (blk_below Ggb.out hb)
        clear Ggb
        have Ggb := Ggbb
        clear Ggbb
        clear hA hb hg HR1
        refine hK.out _ _ trivial (fun hHeld => ?_)
        clear hK K
        refine norm_ (a' := ?_) ?_ ?_
        rotate_left
        · show Act.put _ (some 21) _ = _
          simp only [Act.put, List.setIfInBounds_toArray, List.set_cons_zero, List.set_cons_succ, i64_w, i32_w]
          rfl
        refine one_ (i := 3) (N := some 22) #[true, true, true, true, true, true, true, true, false, false] rfl rfl (by kernel_rfl) (by decide) (fun K hK => ?_)
        refine value_ (w1 := wr2) (v := .string (strOfNums [(x : Int) % 256])) (by rfl) rfl ?_ ?_
        · exact conv1 ((x : Int) % 256) Gga.out (by rfl)
        refine hK.out _ _ trivial (fun hHeld => ?_)
        clear hK K
        refine norm_ (a' := ?_) ?_ ?_
        rotate_left
        · show Act.put _ (some 22) _ = _
          simp only [Act.put, List.setIfInBounds_toArray, List.set_cons_zero, List.set_cons_succ, i64_w, i32_w]
          rfl
        refine pure_ (i := 8) (N := some 7) (v := ?_) (a' := ?_) #[true, true, true, true, true, true, true, true, true, false] rfl rfl (by kernel_rfl) (fun _ _ _ h => h) (Or.inl ⟨by rfl, ?_⟩) ?_ ?_
        rotate_left
        · intro w'
          go_simp
          with_reducible rfl
        rotate_left
        · simp only [Act.put, List.setIfInBounds_toArray, List.set_cons_zero, List.set_cons_succ, i64_w, i32_w]
          rfl
        exact norm_ (by simp only [putAll, Act.put, List.setIfInBounds_toArray, List.set_cons_zero, List.set_cons_succ]) (hCont (.slice (some ⟨ga, 0, none⟩) 1 1, .slice (some ⟨gb, 0, none⟩) 1 1) _ HR2.out)
  rintro sv w4 hb4
  have HB4 := Aside0.mk hb4
  clear hb4
  have hHeld : True := trivial
  refine norm_ (a' := ?_) ?_ ?_
  rotate_left
  · simp only [putAll, Act.put, List.setIfInBounds_toArray, List.set_cons_zero, List.set_cons_succ]
    rfl
  refine pure_ (i := 9) (N := some 8) (v := ?_) (a' := ?_) #[true, true, true, true, true, true, true, true, true, true] rfl rfl (by kernel_rfl) (fun _ _ _ h => h) (Or.inl ⟨by rfl, ?_⟩) ?_ ?_
  rotate_left
  · intro w'
    go_simp
    with_reducible rfl
  rotate_left
  · simp only [Act.put, List.setIfInBounds_toArray, List.set_cons_zero, List.set_cons_succ, i64_w, i32_w]
    rfl
  refine done_ (by kernel_rfl) ?_

  clear HB1
  go_wp2
  go_loopg [7, 9] x (fun n v7 v9 wr => ∃ i : Nat, i + n = x ∧ v7 = .string (fS x i) ∧ v9 = .int .i64 i ∧ Below W.heap.size W wr)
  case atStart => exact ⟨0, by omega, rfl, rfl, HB4.out⟩
  case round =>
    obtain ⟨i, hi, rfl, rfl, hB⟩ := hrel
    clear HB4
    have HB4 := Aside0.mk hB
    have I0 := Aside0.mk hi
    clear hi hB
    by_cases hlt : i < x
    · have dl : decide (i < x) = true := decide_eq_true hlt
      have LT := Aside0.mk hlt
      have i7 : (i : Int) ≤ 7 := by have := X8.out; omega
      have n3 := sum_ok (a := (fS x i).size) (b := 1) (by have := fS_size x i; have := X8.out; omega)
      clear hlt
      go_wp2
      go_roundg (x - (i + 1))
      case measure => have := I0.out; have := LT.out; omega
      case rel => exact ⟨i + 1, by have := LT.out; omega, by rw [← fS_next], by go_num, HB4.out⟩
    · obtain rfl : i = x := by have := I0.out; omega
      have dl : decide (i < i) = false := by simp
      clear hlt I0
      go_wp2
      go_loopg [8, 10] i (fun n v8 v10 wr => ∃ j : Nat, j + n = i ∧ v8 = .string (cS i j) ∧ v10 = .int .i64 j ∧ Below W.heap.size W wr)
      case atStart => exact ⟨0, by omega, rfl, rfl, HB4.out⟩
      case round =>
        obtain ⟨j, hj, rfl, rfl, hB⟩ := hrel
        clear HB4 dl
        have HB9 := Aside0.mk hB
        have J0 := Aside0.mk hj
        clear hj hB
        by_cases hlt : j < i
        · have dl : decide (j < i) = true := decide_eq_true hlt
          have LT := Aside0.mk hlt
          have j7 : (j : Int) ≤ 7 := by have := X8.out; omega
          have n3 := sum_ok (a := (cS i j).size) (b := 3) (by have := cS_size i j; have := X8.out; omega)
          clear hlt
          go_wp2
          go_roundg (i - (j + 1))
          case measure => have := J0.out; have := LT.out; omega
          case rel => exact ⟨j + 1, by have := LT.out; omega, by rw [← cS_next], by go_num, HB9.out⟩
        · obtain rfl : j = i := by have := J0.out; omega
          have dl : decide (j < j) = false := by simp
          clear hlt J0
          go_wp2_with (first
            | (go_at_call 20; (with_reducible refine (section_is 3 _ Z1.out HB9.out).mono ?_); rintro e w10 ⟨rfl, hb⟩; have HB10 := Aside0.mk hb; clear hb HB9)
            | (go_at_call 20; (with_reducible refine (section_is 10 _ Z2.out HB10.out).mono ?_); rintro e w11 ⟨rfl, hb⟩; have HB11 := Aside0.mk hb; clear hb HB10)
            | (go_at_call 13; (with_reducible refine (mod_len_c HM.out rfl rfl F2.out rfl rfl rfl rfl rfl F9.out rfl HT.out HB11.out).mono ?_); rintro e w12 ⟨A0, c0, A1, c1, A2, c2, A3, c3, A4, c4, A5, c5, A6, c6, A8, c8, A9, c9, A10, c10, rfl, hV, hb⟩; have HB12 := Aside0.mk hb; clear hb HB11; clear hV)
            | ((with_reducible refine gate_dst (N := 11) rfl ?_); refine box_event ?hg (N := 11) ?hd (cs := #[.slice none 0 0, .slice none 0 0, .slice none 0 0, .slice none 0 0, .slice none 0 0, .slice none 0 0, .slice none 0 0, .int .i64 0, .slice none 0 0, .slice none 0 0, .slice none 0 0]) (t := 33) ?hr ?_; (case hd => rfl); (case hg => rfl); (case hr => first | (go_simp; done) | (go_simp; rfl)); intro q1 hgq1 w13 hA hb; have Jq1 := Aside0.mk hA; have Mq1 := Aside0.mk (show W.heap.size ≤ q1 by have := HB12.out.size; omega); have hb := HB12.out.trans (hb.mono HB12.out.size); have HB13 := Aside0.mk hb; clear hb HB12; clear hA hgq1)
            | ((with_reducible refine gate_store (p := 11) rfl ?_); refine storeRow_event (g := q1) rfl rfl rfl (cs := #[.slice A0 m.types.length c0, .slice A1 m.imports.length c1, .slice A2 j c2, .slice A3 m.tables.length c3, .slice A4 m.mems.length c4, .slice A5 m.globals.length c5, .slice A6 m.exports.length c6, .int .i64 m.start, .slice A8 m.elems.length c8, .slice A9 j c9, .slice A10 m.datas.length c10]) rfl rfl Jq1.out (by kernel_rfl) rfl (by simp [Value.oneCell']) ?_; intro w14 hA hb ho hs; have hb := hb W.heap.size W Mq1.out HB13.out; have HB14 := Aside0.mk hb; clear hb HB13; have Kq1 := Aside0.mk hA; have yq1_2 : w14.cell? ⟨q1, 2, none⟩ = some (.slice A2 j c2) := blk_cell hA 2; have yq1_9 : w14.cell? ⟨q1, 9, none⟩ = some (.slice A9 j c9) := blk_cell hA 9; clear hA ho hs Jq1 Mq1)
            | (go_at_call 14; (with_reducible refine (num_b _ HB14.out).mono ?_); rintro e w15 ⟨rfl, hb, hb0⟩; have Kq1b := Aside0.mk (blk_below' Kq1.out hb0); clear Kq1; have Kq1 := Kq1b; clear Kq1b yq1_2 yq1_9; have yq1_2 : w15.cell? ⟨q1, 2, none⟩ = some (.slice A2 j c2) := blk_cell Kq1.out 2; have yq1_9 : w15.cell? ⟨q1, 9, none⟩ = some (.slice A9 j c9) := blk_cell Kq1.out 9; have HB15 := Aside0.mk hb; clear hb HB14; clear hb0))
          go_ret
          exact ⟨rfl, HB15.out⟩
set_option maxHeartbeats 4000000 in
set_option maxRecDepth 100000 in
theorem counts_ne (a0 a1 : Int) (x y : Nat) (ex : Go.bits .and .i64 a0 7 = (x : Int)) (ey : Go.bits .and .i64 a1 7 = (y : Int)) (hx : x < 8) (hy : y < 8) (hxy : x ≠ y) (W : World) (hT : Tabs W) : Calls Tryd.prog 10 #[.int .i64 a0, .int .i64 a1] W fun e w' => e = .returned (.bool true) ∧ Below W.heap.size W w' := by
  have HT := Aside0.mk hT
  have HB0 := Aside0.mk (Below.refl W.heap.size W)
  have HM := Aside0.mk (counts_er hx hy hxy)
  have dxy : (x == y) = false := beq_eq_false_iff_ne.2 hxy
  have dxz : ((x : Int) == (y : Int)) = false := beq_eq_false_iff_ne.2 (by omega)
  clear hxy
  have Z1 := Aside0.mk (show (fS x x).size ≤ 140737488355328 by rw [fS_size]; omega)
  have Z2 := Aside0.mk (show (cS y y).size ≤ 140737488355328 by rw [cS_size]; omega)
  have X8 := Aside0.mk hx
  have Y8 := Aside0.mk hy
  have x0 : (0 : Int) ≤ (x : Int) := by omega
  have x7 : (x : Int) ≤ 7 := by omega
  have y0 : (0 : Int) ≤ (y : Int) := by omega
  have y7 : (y : Int) ≤ 7 := by omega
  have n1 := sum_ok (a := 8) (b := (secS 3 (fS x x)).size) (by have := secS_size 3 (fS x x); have := fS_size x x; omega)
  have n2 : ¬ 9223372036854775807 < 8 + (secS 3 (fS x x)).size + (secS 10 (cS y y)).size := by have := secS_size 3 (fS x x); have := fS_size x x; have := secS_size 10 (cS y y); have := cS_size y y; omega
  clear hT hx hy
  go_enter Tryd.func10, Tryd.ntmps10
  go_wp2_with (first
    | (go_at_call 12; (with_reducible refine (awake_c HT.out HB0.out).mono ?_); rintro e w1 ⟨rfl, hb⟩; have HB1 := Aside0.mk hb; clear hb HB0))
  obtain ⟨WD, hWD⟩ : ∃ WD, WD = w1 := ⟨_, rfl⟩
  subst hWD
  have HR0 : Aside0 (Below W.heap.size W WD.drew) := ⟨below_drew HB1.out⟩
  refine start_ (n := 10) (S := fun w' => True) (ds := []) #[false, false, false, false, false, false, false, false, false, false] (by kernel_rfl) rfl rfl trivial (fun hHeld => ?_)
  refine pure_ (i := 0) (N := some 19) (v := ?_) (a' := ?_) #[true, false, false, false, false, false, false, false, false, false] rfl rfl (by kernel_rfl) (fun _ _ _ h => h) (Or.inl ⟨by rfl, ?_⟩) ?_ ?_
  rotate_left
  · intro w'
    go_simp
    with_reducible rfl
  rotate_left
  · simp only [Act.put, List.setIfInBounds_toArray, List.set_cons_zero, List.set_cons_succ, i64_w, i32_w]
    rfl
  refine pure_ (i := 1) (N := some 20) (v := ?_) (a' := ?_) #[true, true, false, false, false, false, false, false, false, false] rfl rfl (by kernel_rfl) (fun _ _ _ h => h) (Or.inl ⟨by rfl, ?_⟩) ?_ ?_
  rotate_left
  · intro w'
    go_simp
    with_reducible rfl
  rotate_left
  · simp only [Act.put, List.setIfInBounds_toArray, List.set_cons_zero, List.set_cons_succ, i64_w, i32_w]
    rfl
  refine pure_ (i := 4) (N := some 23) (v := ?_) (a' := ?_) #[true, true, false, false, true, false, false, false, false, false] rfl rfl (by kernel_rfl) (fun _ _ _ h => h) (Or.inl ⟨by rfl, ?_⟩) ?_ ?_
  rotate_left
  · intro w'
    go_simp
    with_reducible rfl
  rotate_left
  · simp only [Act.put, List.setIfInBounds_toArray, List.set_cons_zero, List.set_cons_succ, i64_w, i32_w]
    rfl
  refine pure_ (i := 5) (N := some 24) (v := ?_) (a' := ?_) #[true, true, false, false, true, true, false, false, false, false] rfl rfl (by kernel_rfl) (fun _ _ _ h => h) (Or.inl ⟨by rfl, ?_⟩) ?_ ?_
  rotate_left
  · intro w'
    go_simp
    with_reducible rfl
  rotate_left
  · simp only [Act.put, List.setIfInBounds_toArray, List.set_cons_zero, List.set_cons_succ, i64_w, i32_w]
    rfl
  refine join_ (σ := Value × Value) 1 #[true, true, true, true, true, true, true, true, true, false] (fun s => [(21, s.1), (22, .string (strOfNums [(x : Int) % 256])), (25, s.2), (26, .string (strOfNums [(y : Int) % 256])), (7, .string (strOfNums [(x : Int) % 256]))]) (fun s W1 => Below W.heap.size W W1) ?_ ?_
  rotate_left
  · intro hCont
    refine two_ (i := 2) (j := 6) (Ni := some 21) (Nj := some 25) #[true, true, true, false, true, true, false, false, false, false] #[true, true, false, false, true, true, true, false, false, false] rfl rfl rfl rfl (by kernel_rfl) (by decide) (by decide) (fun K hK => ?_) (fun K hK => ?_)
    · skip
      refine lit_step ?hw (N := 21) ?hd (cs := #[.int .u8 ((x : Int) % 256)]) (t := 5) (n := 1) ?hr ?_
      case hw => rfl
      case hd => rfl
      case hr => first | (go_simp; done) | (go_simp; rfl)
      intro ga hg wr1 hA hb
      have Gga := Aside0.mk hA
      have HR1 := Aside0.mk (below_step HR0.out hb)
      clear hA hb hg HR0
      refine hK.out _ _ trivial (fun hHeld => ?_)
      clear hK K
      refine norm_ (a' := ?_) ?_ ?_
      rotate_left
      · show Act.put _ (some 21) _ = _
        simp only [Act.put, List.setIfInBounds_toArray, List.set_cons_zero, List.set_cons_succ, i64_w, i32_w]
        rfl
      refine two_ (i := 3) (j := 6) (Ni := some 22) (Nj := some 25) #[true, true, true, true, true, true, false, false, false, false] #[true, true, true, false, true, true, true, false, false, false] rfl rfl rfl rfl (by kernel_rfl) (by decide) (by decide) (fun K hK => ?_) (fun K hK => ?_)
      · skip
        refine value_ (w1 := wr1) (v := .string (strOfNums [(x : Int) % 256])) (by rfl) rfl ?_ ?_
        · exact conv1 ((x : Int) % 256) Gga.out (by rfl)
        refine hK.out _ _ trivial (fun hHeld => ?_)
        clear hK K
        refine norm_ (a' := ?_) ?_ ?_
        rotate_left
        · show Act.put _ (some 22) _ = _
          simp only [Act.put, List.setIfInBounds_toArray, List.set_cons_zero, List.set_cons_succ, i64_w, i32_w]
          rfl
        refine pure_ (i := 8) (N := some 7) (v := ?_) (a' := ?_) #[true, true, true, true, true, true, false, false, true, false] rfl rfl (by kernel_rfl) (fun _ _ _ h => h) (Or.inl ⟨by rfl, ?_⟩) ?_ ?_
        rotate_left
        · intro w'
          go_simp
          with_reducible rfl
        rotate_left
        · simp only [Act.put, List.setIfInBounds_toArray, List.set_cons_zero, List.set_cons_succ, i64_w, i32_w]
          rfl
        refine one_ (i := 6) (N := some 25) #[true, true, true, true, true, true, true, false, true, false] rfl rfl (by kernel_rfl) (by decide) (fun K hK => ?_)
        refine lit_step ?hw (N := 25) ?hd (cs := #[.int .u8 ((y : Int) % 256)]) (t := 5) (n := 1) ?hr ?_
        case hw => rfl
        case hd => rfl
        case hr => first | (go_simp; done) | (go_simp; rfl)
        intro gb hg wr2 hA hb
        have Ggb := Aside0.mk hA
        have HR2 := Aside0.mk (below_step HR1.out hb)
        have Ggab := Aside0.mk (blk_below Gga.out hb)
        clear Gga
        have Gga := Ggab
        clear Ggab
        clear hA hb hg HR1
        refine hK.out _ _ trivial (fun hHeld => ?_)
        clear hK K
        refine norm_ (a' := ?_) ?_ ?_
        rotate_left
        · show Act.put _ (some 25) _ = _
          simp only [Act.put, List.setIfInBounds_toArray, List.set_cons_zero, List.set_cons_succ, i64_w, i32_w]
          rfl
        refine one_ (i := 7) (N := some 26) #[true, true, true, true, true, true, true, true, true, false] rfl rfl (by kernel_rfl) (by decide) (fun K hK => ?_)
        refine value_ (w1 := wr2) (v := .string (strOfNums [(y : Int) % 256])) (by rfl) rfl ?_ ?_
        · exact conv1 ((y : Int) % 256) Ggb.out (by rfl)
        refine hK.out _ _ trivial (fun hHeld => ?_)
        clear hK K
        refine norm_ (a' := ?_) ?_ ?_
        rotate_left
        · show Act.put _ (some 26) _ = _
          simp only [Act.put, List.setIfInBounds_toArray, List.set_cons_zero, List.set_cons_succ, i64_w, i32_w]
          rfl
        exact norm_ (by simp only [putAll, Act.put, List.setIfInBounds_toArray, List.set_cons_zero, List.set_cons_succ]) (hCont (.slice (some ⟨ga, 0, none⟩) 1 1, .slice (some ⟨gb, 0, none⟩) 1 1) _ HR2.out)
      · skip
        refine lit_step ?hw (N := 25) ?hd (cs := #[.int .u8 ((y : Int) % 256)]) (t := 5) (n := 1) ?hr ?_
        case hw => rfl
        case hd => rfl
        case hr => first | (go_simp; done) | (go_simp; rfl)
        intro gb hg wr2 hA hb
        have Ggb := Aside0.mk hA
        have HR2 := Aside0.mk (below_step HR1.out hb)
        have Ggab := Aside0.mk (blk_below Gga.out hb)
        clear Gga
        have Gga := Ggab
        clear Ggab
        clear hA hb hg HR1
        refine hK.out _ _ trivial (fun hHeld => ?_)
        clear hK K
        refine norm_ (a' := ?_) ?_ ?_
        rotate_left
        · show Act.put _ (some 25) _ = _
          simp only [Act.put, List.setIfInBounds_toArray, List.set_cons_zero, List.set_cons_succ, i64_w, i32_w]
          rfl
        refine two_ (i := 3) (j := 7) (Ni := some 22) (Nj := some 26) #[true, true, true, true, true, true, true, false, false, false] #[true, true, true, false, true, true, true, true, false, false] rfl rfl rfl rfl (by kernel_rfl) (by decide) (by decide) (fun K hK => ?_) (fun K hK => ?_)
        · skip
          refine value_ (w1 := wr2) (v := .string (strOfNums [(x : Int) % 256])) (by rfl) rfl ?_ ?_
          · exact conv1 ((x : Int) % 256) Gga.out (by rfl)
          refine hK.out _ _ trivial (fun hHeld => ?_)
          clear hK K
          refine norm_ (a' := ?_) ?_ ?_
          rotate_left
          · show Act.put _ (some 22) _ = _
            simp only [Act.put, List.setIfInBounds_toArray, List.set_cons_zero, List.set_cons_succ, i64_w, i32_w]
            rfl
          refine pure_ (i := 8) (N := some 7) (v := ?_) (a' := ?_) #[true, true, true, true, true, true, true, false, true, false] rfl rfl (by kernel_rfl) (fun _ _ _ h => h) (Or.inl ⟨by rfl, ?_⟩) ?_ ?_
          rotate_left
          · intro w'
            go_simp
            with_reducible rfl
          rotate_left
          · simp only [Act.put, List.setIfInBounds_toArray, List.set_cons_zero, List.set_cons_succ, i64_w, i32_w]
            rfl
          refine one_ (i := 7) (N := some 26) #[true, true, true, true, true, true, true, true, true, false] rfl rfl (by kernel_rfl) (by decide) (fun K hK => ?_)
          refine value_ (w1 := wr2) (v := .string (strOfNums [(y : Int) % 256])) (by rfl) rfl ?_ ?_
          · exact conv1 ((y : Int) % 256) Ggb.out (by rfl)
          refine hK.out _ _ trivial (fun hHeld => ?_)
          clear hK K
          refine norm_ (a' := ?_) ?_ ?_
          rotate_left
          · show Act.put _ (some 26) _ = _
            simp only [Act.put, List.setIfInBounds_toArray, List.set_cons_zero, List.set_cons_succ, i64_w, i32_w]
            rfl
          exact norm_ (by simp only [putAll, Act.put, List.setIfInBounds_toArray, List.set_cons_zero, List.set_cons_succ]) (hCont (.slice (some ⟨ga, 0, none⟩) 1 1, .slice (some ⟨gb, 0, none⟩) 1 1) _ HR2.out)
        · skip
          refine value_ (w1 := wr2) (v := .string (strOfNums [(y : Int) % 256])) (by rfl) rfl ?_ ?_
          · exact conv1 ((y : Int) % 256) Ggb.out (by rfl)
          refine hK.out _ _ trivial (fun hHeld => ?_)
          clear hK K
          refine norm_ (a' := ?_) ?_ ?_
          rotate_left
          · show Act.put _ (some 26) _ = _
            simp only [Act.put, List.setIfInBounds_toArray, List.set_cons_zero, List.set_cons_succ, i64_w, i32_w]
            rfl
          refine one_ (i := 3) (N := some 22) #[true, true, true, true, true, true, true, true, false, false] rfl rfl (by kernel_rfl) (by decide) (fun K hK => ?_)
          refine value_ (w1 := wr2) (v := .string (strOfNums [(x : Int) % 256])) (by rfl) rfl ?_ ?_
          · exact conv1 ((x : Int) % 256) Gga.out (by rfl)
          refine hK.out _ _ trivial (fun hHeld => ?_)
          clear hK K
          refine norm_ (a' := ?_) ?_ ?_
          rotate_left
          · show Act.put _ (some 22) _ = _
            simp only [Act.put, List.setIfInBounds_toArray, List.set_cons_zero, List.set_cons_succ, i64_w, i32_w]
            rfl
          refine pure_ (i := 8) (N := some 7) (v := ?_) (a' := ?_) #[true, true, true, true, true, true, true, true, true, false] rfl rfl (by kernel_rfl) (fun _ _ _ h => h) (Or.inl ⟨by rfl, ?_⟩) ?_ ?_
          rotate_left
          · intro w'
            go_simp
            with_reducible rfl
          rotate_left
          · simp only [Act.put, List.setIfInBounds_toArray, List.set_cons_zero, List.set_cons_succ, i64_w, i32_w]
            rfl
          exact norm_ (by simp only [putAll, Act.put, List.setIfInBounds_toArray, List.set_cons_zero, List.set_cons_succ]) (hCont (.slice (some ⟨ga, 0, none⟩) 1 1, .slice (some ⟨gb, 0, none⟩) 1 1) _ HR2.out)
    · skip
      refine lit_step ?hw (N := 25) ?hd (cs := #[.int .u8 ((y : Int) % 256)]) (t := 5) (n := 1) ?hr ?_
      case hw => rfl
      case hd => rfl
      case hr => first | (go_simp; done) | (go_simp; rfl)
      intro gb hg wr1 hA hb
      have Ggb := Aside0.mk hA
      have HR1 := Aside0.mk (below_step HR0.out hb)
      clear hA hb hg HR0
      refine hK.out _ _ trivial (fun hHeld => ?_)
      clear hK K
      refine norm_ (a' := ?_) ?_ ?_
      rotate_left
      · show Act.put _ (some 25) _ = _
        simp only [Act.put, List.setIfInBounds_toArray, List.set_cons_zero, List.set_cons_succ, i64_w, i32_w]
        rfl
      refine two_ (i := 2) (j := 7) (Ni := some 21) (Nj := some 26) #[true, true, true, false, true, true, true, false, false, false] #[true, true, false, false, true, true, true, true, false, false] rfl rfl rfl rfl (by kernel_rfl) (by decide) (by decide) (fun K hK => ?_) (fun K hK => ?_)
      · skip
        refine lit_step ?hw (N := 21) ?hd (cs := #[.int .u8 ((x : Int) % 256)]) (t := 5) (n := 1) ?hr ?_
        case hw => rfl
        case hd => rfl
        case hr => first | (go_simp; done) | (go_simp; rfl)
        intro ga hg wr2 hA hb
        have Gga := Aside0.mk hA
        have HR2 := Aside0.mk (below_step HR1.out hb)
        have Ggbb := Aside0.mk (blk_below Ggb.out hb)
        clear Ggb
        have Ggb := Ggbb
        clear Ggbb
        clear hA hb hg HR1
        refine hK.out _ _ trivial (fun hHeld => ?_)
        clear hK K
        refine norm_ (a' := ?_) ?_ ?_
        rotate_left
        · show Act.put _ (some 21) _ = _
          simp only [Act.put, List.setIfInBounds_toArray, List.set_cons_zero, List.set_cons_succ, i64_w, i32_w]
          rfl
        refine two_ (i := 3) (j := 7) (Ni := some 22) (Nj := some 26) #[true, true, true, true, true, true, true, false, false, false] #[true, true, true, false, true, true, true, true, false, false] rfl rfl rfl rfl (by kernel_rfl) (by decide) (by decide) (fun K hK => ?_) (fun K hK => ?_)
        · skip
          refine value_ (w1 := wr2) (v := .string (strOfNums [(x : Int) % 256])) (by rfl) rfl ?_ ?_
          · exact conv1 ((x : Int) % 256) Gga.out (by rfl)
          refine hK.out _ _ trivial (fun hHeld => ?_)
          clear hK K
          refine norm_ (a' := ?_) ?_ ?_
          rotate_left
          · show Act.put _ (some 22) _ = _
            simp only [Act.put, List.setIfInBounds_toArray, List.set_cons_zero, List.set_cons_succ, i64_w, i32_w]
            rfl
          refine pure_ (i := 8) (N := some 7) (v := ?_) (a' := ?_) #[true, true, true, true, true, true, true, false, true, false] rfl rfl (by kernel_rfl) (fun _ _ _ h => h) (Or.inl ⟨by rfl, ?_⟩) ?_ ?_
          rotate_left
          · intro w'
            go_simp
            with_reducible rfl
          rotate_left
          · simp only [Act.put, List.setIfInBounds_toArray, List.set_cons_zero, List.set_cons_succ, i64_w, i32_w]
            rfl
          refine one_ (i := 7) (N := some 26) #[true, true, true, true, true, true, true, true, true, false] rfl rfl (by kernel_rfl) (by decide) (fun K hK => ?_)
          refine value_ (w1 := wr2) (v := .string (strOfNums [(y : Int) % 256])) (by rfl) rfl ?_ ?_
          · exact conv1 ((y : Int) % 256) Ggb.out (by rfl)
          refine hK.out _ _ trivial (fun hHeld => ?_)
          clear hK K
          refine norm_ (a' := ?_) ?_ ?_
          rotate_left
          · show Act.put _ (some 26) _ = _
            simp only [Act.put, List.setIfInBounds_toArray, List.set_cons_zero, List.set_cons_succ, i64_w, i32_w]
            rfl
          exact norm_ (by simp only [putAll, Act.put, List.setIfInBounds_toArray, List.set_cons_zero, List.set_cons_succ]) (hCont (.slice (some ⟨ga, 0, none⟩) 1 1, .slice (some ⟨gb, 0, none⟩) 1 1) _ HR2.out)
        · skip
          refine value_ (w1 := wr2) (v := .string (strOfNums [(y : Int) % 256])) (by rfl) rfl ?_ ?_
          · exact conv1 ((y : Int) % 256) Ggb.out (by rfl)
          refine hK.out _ _ trivial (fun hHeld => ?_)
          clear hK K
          refine norm_ (a' := ?_) ?_ ?_
          rotate_left
          · show Act.put _ (some 26) _ = _
            simp only [Act.put, List.setIfInBounds_toArray, List.set_cons_zero, List.set_cons_succ, i64_w, i32_w]
            rfl
          refine one_ (i := 3) (N := some 22) #[true, true, true, true, true, true, true, true, false, false] rfl rfl (by kernel_rfl) (by decide) (fun K hK => ?_)
          refine value_ (w1 := wr2) (v := .string (strOfNums [(x : Int) % 256])) (by rfl) rfl ?_ ?_
          · exact conv1 ((x : Int) % 256) Gga.out (by rfl)
          refine hK.out _ _ trivial (fun hHeld => ?_)
          clear hK K
          refine norm_ (a' := ?_) ?_ ?_
          rotate_left
          · show Act.put _ (some 22) _ = _
            simp only [Act.put, List.setIfInBounds_toArray, List.set_cons_zero, List.set_cons_succ, i64_w, i32_w]
            rfl
          refine pure_ (i := 8) (N := some 7) (v := ?_) (a' := ?_) #[true, true, true, true, true, true, true, true, true, false] rfl rfl (by kernel_rfl) (fun _ _ _ h => h) (Or.inl ⟨by rfl, ?_⟩) ?_ ?_
          rotate_left
          · intro w'
            go_simp
            with_reducible rfl
          rotate_left
          · simp only [Act.put, List.setIfInBounds_toArray, List.set_cons_zero, List.set_cons_succ, i64_w, i32_w]
            rfl
          exact norm_ (by simp only [putAll, Act.put, List.setIfInBounds_toArray, List.set_cons_zero, List.set_cons_succ]) (hCont (.slice (some ⟨ga, 0, none⟩) 1 1, .slice (some ⟨gb, 0, none⟩) 1 1) _ HR2.out)
      · skip
        refine value_ (w1 := wr1) (v := .string (strOfNums [(y : Int) % 256])) (by rfl) rfl ?_ ?_
        · exact conv1 ((y : Int) % 256) Ggb.out (by rfl)
        refine hK.out _ _ trivial (fun hHeld => ?_)
        clear hK K
        refine norm_ (a' := ?_) ?_ ?_
        rotate_left
        · show Act.put _ (some 26) _ = _
          simp only [Act.put, List.setIfInBounds_toArray, List.set_cons_zero, List.set_cons_succ, i64_w, i32_w]
          rfl
        refine one_ (i := 2) (N := some 21) #[true, true, true, false, true, true, true, true, false, false] rfl rfl (by kernel_rfl) (by decide) (fun K hK => ?_)
        refine lit_step ?hw (N := 21) ?hd (cs := #[.int .u8 ((x : Int) % 256)]) (t := 5) (n := 1) ?hr ?_
        case hw => rfl
        case hd => rfl
        case hr => first | (go_simp; done) | (go_simp; rfl)
        intro ga hg wr2 hA hb
        have Gga := Aside0.mk hA
        have HR2 := Aside0.mk (below_step HR1.out hb)
        have Ggbb := Aside0.mk (blk_below Ggb.out hb)
        clear Ggb
        have Ggb := Ggbb
        clear Ggbb
        clear hA hb hg HR1
        refine hK.out _ _ trivial (fun hHeld => ?_)
        clear hK K
        refine norm_ (a' := ?_) ?_ ?_
        rotate_left
        · show Act.put _ (some 21) _ = _
          simp only [Act.put, List.setIfInBounds_toArray, List.set_cons_zero, List.set_cons_succ, i64_w, i32_w]
          rfl
        refine one_ (i := 3) (N := some 22) #[true, true, true, true, true, true, true, true, false, false] rfl rfl (by kernel_rfl) (by decide) (fun K hK => ?_)
        refine value_ (w1 := wr2) (v := .string (strOfNums [(x : Int) % 256])) (by rfl) rfl ?_ ?_
        · exact conv1 ((x : Int) % 256) Gga.out (by rfl)
        refine hK.out _ _ trivial (fun hHeld => ?_)
        clear hK K
        refine norm_ (a' := ?_) ?_ ?_
        rotate_left
        · show Act.put _ (some 22) _ = _
          simp only [Act.put, List.setIfInBounds_toArray, List.set_cons_zero, List.set_cons_succ, i64_w, i32_w]
          rfl
        refine pure_ (i := 8) (N := some 7) (v := ?_) (a' := ?_) #[true, true, true, true, true, true, true, true, true, false] rfl rfl (by kernel_rfl) (fun _ _ _ h => h) (Or.inl ⟨by rfl, ?_⟩) ?_ ?_
        rotate_left
        · intro w'
          go_simp
          with_reducible rfl
        rotate_left
        · simp only [Act.put, List.setIfInBounds_toArray, List.set_cons_zero, List.set_cons_succ, i64_w, i32_w]
          rfl
        exact norm_ (by simp only [putAll, Act.put, List.setIfInBounds_toArray, List.set_cons_zero, List.set_cons_succ]) (hCont (.slice (some ⟨ga, 0, none⟩) 1 1, .slice (some ⟨gb, 0, none⟩) 1 1) _ HR2.out)
  rintro sv w4 hb4
  have HB4 := Aside0.mk hb4
  clear hb4
  have hHeld : True := trivial
  refine norm_ (a' := ?_) ?_ ?_
  rotate_left
  · simp only [putAll, Act.put, List.setIfInBounds_toArray, List.set_cons_zero, List.set_cons_succ]
    rfl
  refine pure_ (i := 9) (N := some 8) (v := ?_) (a' := ?_) #[true, true, true, true, true, true, true, true, true, true] rfl rfl (by kernel_rfl) (fun _ _ _ h => h) (Or.inl ⟨by rfl, ?_⟩) ?_ ?_
  rotate_left
  · intro w'
    go_simp
    with_reducible rfl
  rotate_left
  · simp only [Act.put, List.setIfInBounds_toArray, List.set_cons_zero, List.set_cons_succ, i64_w, i32_w]
    rfl
  refine done_ (by kernel_rfl) ?_

  clear HB1
  go_wp2
  go_loopg [7, 9] x (fun n v7 v9 wr => ∃ i : Nat, i + n = x ∧ v7 = .string (fS x i) ∧ v9 = .int .i64 i ∧ Below W.heap.size W wr)
  case atStart => exact ⟨0, by omega, rfl, rfl, HB4.out⟩
  case round =>
    obtain ⟨i, hi, rfl, rfl, hB⟩ := hrel
    clear HB4
    have HB4 := Aside0.mk hB
    have I0 := Aside0.mk hi
    clear hi hB
    by_cases hlt : i < x
    · have dl : decide (i < x) = true := decide_eq_true hlt
      have LT := Aside0.mk hlt
      have i7 : (i : Int) ≤ 7 := by have := X8.out; omega
      have n3 := sum_ok (a := (fS x i).size) (b := 1) (by have := fS_size x i; have := X8.out; omega)
      clear hlt
      go_wp2
      go_roundg (x - (i + 1))
      case measure => have := I0.out; have := LT.out; omega
      case rel => exact ⟨i + 1, by have := LT.out; omega, by rw [← fS_next], by go_num, HB4.out⟩
    · obtain rfl : i = x := by have := I0.out; omega
      have dl : decide (i < i) = false := by simp
      clear hlt I0
      go_wp2
      go_loopg [8, 10] y (fun n v8 v10 wr => ∃ j : Nat, j + n = y ∧ v8 = .string (cS y j) ∧ v10 = .int .i64 j ∧ Below W.heap.size W wr)
      case atStart => exact ⟨0, by omega, rfl, rfl, HB4.out⟩
      case round =>
        obtain ⟨j, hj, rfl, rfl, hB⟩ := hrel
        clear HB4 dl
        have HB9 := Aside0.mk hB
        have J0 := Aside0.mk hj
        clear hj hB
        by_cases hlt : j < y
        · have dl : decide (j < y) = true := decide_eq_true hlt
          have LT := Aside0.mk hlt
          have j7 : (j : Int) ≤ 7 := by have := Y8.out; omega
          have n3 := sum_ok (a := (cS y j).size) (b := 3) (by have := cS_size y j; have := Y8.out; omega)
          clear hlt
          go_wp2
          go_roundg (y - (j + 1))
          case measure => have := J0.out; have := LT.out; omega
          case rel => exact ⟨j + 1, by have := LT.out; omega, by rw [← cS_next], by go_num, HB9.out⟩
        · obtain rfl : j = y := by have := J0.out; omega
          have dl : decide (j < j) = false := by simp
          clear hlt J0
          go_wp2_with (first
            | (go_at_call 20; (with_reducible refine (section_is 3 _ Z1.out HB9.out).mono ?_); rintro e w10 ⟨rfl, hb⟩; have HB10 := Aside0.mk hb; clear hb HB9)
            | (go_at_call 20; (with_reducible refine (section_is 10 _ Z2.out HB10.out).mono ?_); rintro e w11 ⟨rfl, hb⟩; have HB11 := Aside0.mk hb; clear hb HB10)
            | (go_at_call 13; (with_reducible refine (mod_er_c HM.out HT.out HB11.out).mono ?_); rintro e w12 ⟨rfl, hb⟩; have HB12 := Aside0.mk hb; clear hb HB11)
            | ((with_reducible refine gate_dst (N := 11) rfl ?_); refine box_event ?hg (N := 11) ?hd (cs := #[.slice none 0 0, .slice none 0 0, .slice none 0 0, .slice none 0 0, .slice none 0 0, .slice none 0 0, .slice none 0 0, .int .i64 0, .slice none 0 0, .slice none 0 0, .slice none 0 0]) (t := 33) ?hr ?_; (case hd => rfl); (case hg => rfl); (case hr => first | (go_simp; done) | (go_simp; rfl)); intro q1 hgq1 w13 hA hb; have Jq1 := Aside0.mk hA; have Mq1 := Aside0.mk (show W.heap.size ≤ q1 by have := HB12.out.size; omega); have hb := HB12.out.trans (hb.mono HB12.out.size); have HB13 := Aside0.mk hb; clear hb HB12; clear hA hgq1)
            | ((with_reducible refine gate_store (p := 11) rfl ?_); refine storeRow_event (g := q1) rfl rfl rfl (cs := #[.slice none 0 0, .slice none 0 0, .slice none 0 0, .slice none 0 0, .slice none 0 0, .slice none 0 0, .slice none 0 0, .int .i64 0, .slice none 0 0, .slice none 0 0, .slice none 0 0]) rfl rfl Jq1.out (by kernel_rfl) rfl (by simp [Value.oneCell']) ?_; intro w14 hA hb ho hs; have hb := hb W.heap.size W Mq1.out HB13.out; have HB14 := Aside0.mk hb; clear hb HB13; have Kq1 := Aside0.mk hA; have yq1_0 : w14.cell? ⟨q1, 0, none⟩ = some (.slice none 0 0) := blk_cell hA 0; have yq1_1 : w14.cell? ⟨q1, 1, none⟩ = some (.slice none 0 0) := blk_cell hA 1; have yq1_2 : w14.cell? ⟨q1, 2, none⟩ = some (.slice none 0 0) := blk_cell hA 2; have yq1_3 : w14.cell? ⟨q1, 3, none⟩ = some (.slice none 0 0) := blk_cell hA 3; have yq1_4 : w14.cell? ⟨q1, 4, none⟩ = some (.slice none 0 0) := blk_cell hA 4; have yq1_5 : w14.cell? ⟨q1, 5, none⟩ = some (.slice none 0 0) := blk_cell hA 5; have yq1_6 : w14.cell? ⟨q1, 6, none⟩ = some (.slice none 0 0) := blk_cell hA 6; have yq1_7 : w14.cell? ⟨q1, 7, none⟩ = some (.int .i64 0) := blk_cell hA 7; have yq1_8 : w14.cell? ⟨q1, 8, none⟩ = some (.slice none 0 0) := blk_cell hA 8; have yq1_9 : w14.cell? ⟨q1, 9, none⟩ = some (.slice none 0 0) := blk_cell hA 9; have yq1_10 : w14.cell? ⟨q1, 10, none⟩ = some (.slice none 0 0) := blk_cell hA 10; clear hA ho hs Jq1 Mq1)
            | (go_at_call 14; (with_reducible refine (num_b _ HB14.out).mono ?_); rintro e w15 ⟨rfl, hb, hb0⟩; have Kq1b := Aside0.mk (blk_below' Kq1.out hb0); clear Kq1; have Kq1 := Kq1b; clear Kq1b yq1_0 yq1_1 yq1_2 yq1_3 yq1_4 yq1_5 yq1_6 yq1_7 yq1_8 yq1_9 yq1_10; have yq1_0 : w15.cell? ⟨q1, 0, none⟩ = some (.slice none 0 0) := blk_cell Kq1.out 0; have yq1_1 : w15.cell? ⟨q1, 1, none⟩ = some (.slice none 0 0) := blk_cell Kq1.out 1; have yq1_2 : w15.cell? ⟨q1, 2, none⟩ = some (.slice none 0 0) := blk_cell Kq1.out 2; have yq1_3 : w15.cell? ⟨q1, 3, none⟩ = some (.slice none 0 0) := blk_cell Kq1.out 3; have yq1_4 : w15.cell? ⟨q1, 4, none⟩ = some (.slice none 0 0) := blk_cell Kq1.out 4; have yq1_5 : w15.cell? ⟨q1, 5, none⟩ = some (.slice none 0 0) := blk_cell Kq1.out 5; have yq1_6 : w15.cell? ⟨q1, 6, none⟩ = some (.slice none 0 0) := blk_cell Kq1.out 6; have yq1_7 : w15.cell? ⟨q1, 7, none⟩ = some (.int .i64 0) := blk_cell Kq1.out 7; have yq1_8 : w15.cell? ⟨q1, 8, none⟩ = some (.slice none 0 0) := blk_cell Kq1.out 8; have yq1_9 : w15.cell? ⟨q1, 9, none⟩ = some (.slice none 0 0) := blk_cell Kq1.out 9; have yq1_10 : w15.cell? ⟨q1, 10, none⟩ = some (.slice none 0 0) := blk_cell Kq1.out 10; have HB15 := Aside0.mk hb; clear hb HB14; clear hb0)
            | (go_at_call 16; (with_reducible refine (samez_is HB15.out).mono ?_); rintro e w16 ⟨rfl, hb⟩; have HB16 := Aside0.mk hb; clear hb HB15))
          go_ret
          exact ⟨rfl, HB16.out⟩
theorem counts_calls (a0 a1 : Int) (W : World) (hT : Tabs W) : Calls Tryd.prog 10 #[.int .i64 a0, .int .i64 a1] W fun e w' => e = .returned (.bool true) ∧ Below W.heap.size W w' := by
  obtain ⟨x, hx⟩ : ∃ x : Nat, (x : Int) = a0 % 8 := ⟨(a0 % 8).toNat, by omega⟩
  obtain ⟨y, hy⟩ : ∃ y : Nat, (y : Int) = a1 % 8 := ⟨(a1 % 8).toNat, by omega⟩
  by_cases h : x = y
  · exact counts_eq a0 a1 x y (by rw [and7, hx]) (by rw [and7, hy]) (by omega) (by omega) h W hT
  · exact counts_ne a0 a1 x y (by rw [and7, hx]) (by rw [and7, hy]) (by omega) (by omega) h W hT
end Go.Proofs.YtkdoijfjceeblaaDoor.EDec
