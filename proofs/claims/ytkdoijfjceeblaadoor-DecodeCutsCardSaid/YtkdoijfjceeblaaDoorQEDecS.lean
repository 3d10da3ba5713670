/-
  What the claim leans on, in the order of its making: words about values and worlds, the printed functions, the decoder in plain words and its walk. Cut to what is used by wip/tools/prune15.py. (EDecS)
-/
import Derived.Test.YtkdoijfjceeblaaDoorQF2
import Derived.Test.YtkdoijfjceeblaaDoorQEDecA
namespace Go.Proofs.YtkdoijfjceeblaaDoor.EDec
open Go Go.RowKit Go.Proofs.YtkdoijfjceeblaaDoor.F Go.Proofs.YtkdoijfjceeblaaDoorW.Hand Go.Proofs.YtkdoijfjceeblaaDoorW.PrintWords Go.Proofs.YtkdoijfjceeblaaDoorW.PrintLast Go.Proofs.YtkdoijfjceeblaaDoorW.PrintMore
open Go.Proofs.YtkdoijfjceeblaaDoor.LebGets (G)
open Go.Proofs.YtkdoijfjceeblaaDoor.ENames (Tabs tabs_below nget nmay)
open Go.Proofs.YtkdoijfjceeblaaDoor.EInstr (GRes pGet get_b ret_int wrap_bt)
set_option linter.unusedVariables false
set_option linter.unusedSimpArgs false
def lebS (x : Int) : ByteArray := strOfNums (LebMath.U 9 (x % 18446744073709551616))
theorem leb_is (x : Int) {w0 W : World} (hb : Below w0.heap.size w0 W) : Calls Tryd.prog 17 #[.int .i64 x] W fun e w' => e = .returned (.string (lebS x)) ∧ Below w0.heap.size w0 w' := by
  obtain ⟨k, hk⟩ := LebFns.lebref_ev x
  exact (pelorusref12_Leb.calls k x _ W (hk k (Nat.le_refl _))).mono fun e w' h => ⟨h.1, hb.trans (h.2.mono hb.size)⟩
theorem U_le : ∀ (d : Nat) (u : Int), (LebMath.U d u).length ≤ d + 1
  | 0, u => by simp [LebMath.U]
  | d + 1, u => by
    have := U_le d (u / 128)
    rw [LebMath.U]
    split <;> simp <;> omega
theorem lebS_size (x : Int) : (lebS x).size ≤ 10 := by
  have := U_le 9 (x % 18446744073709551616)
  simpa [lebS, strOfNums, ByteArray.size] using this
def secS (k : Int) (b : ByteArray) : ByteArray := strOfNums [k % 256] ++ lebS b.size ++ b
theorem conv1 (x : Int) {a : Act} {o : Oper} {W : World} {g c : Nat} {T : TypeId} (hA : W.heap[g]? = some (.cells #[.int .u8 x] T (0, 0))) (ho : (execOp a.eval o) = (do let v ← convert 48 9 (.slice (some ⟨g, 0, none⟩) 1 c); pure (.value v))) : (execOp a.eval o).run Tryd.prog W = .ok (.value (.string (strOfNums [x]))) W := by
  rw [ho, Sem.run_bind, run_convert_bytes_arg W 48 5 Tryd.underlying48 Tryd.underlying5 g 0 1 c [x] rfl (fun i hi => by
    obtain rfl : i = 0 := by simpa using hi
    exact blk_cell hA 0) 9 Tryd.underlying9]
  rfl
set_option maxHeartbeats 4000000 in
set_option maxRecDepth 100000 in
theorem section_is (k : Int) (b : ByteArray) (hz : b.size ≤ 140737488355328) {w0 W : World} (hb : Below w0.heap.size w0 W) : Calls Tryd.prog 20 #[.int .i64 k, .string b] W fun e w' => e = .returned (.string (secS k b)) ∧ Below w0.heap.size w0 w' := by
  suffices h : ∀ w, Calls Tryd.prog 20 #[.int .i64 k, .string b] w fun e w' => e = .returned (.string (secS k b)) ∧ Below w.heap.size w w' from (h W).mono fun e w' h => ⟨h.1, hb.trans (h.2.mono hb.size)⟩
  clear hb
  intro w
  have z0 := lebS_size b.size
  have zk : (strOfNums [k % 256]).size = 1 := by simp [strOfNums, ByteArray.size]
  have z1 : ¬ 9223372036854775807 < (strOfNums [k % 256]).size + (lebS b.size).size := by omega
  have z2 : ¬ 9223372036854775807 < (strOfNums [k % 256] ++ lebS b.size).size + b.size := by
    rw [ByteArray.size_append]; omega
  have z3 : ¬ 9223372036854775807 < (strOfNums [k % 256]).size + (lebS b.size).size + b.size := by omega
  clear z0 zk hz
  have HB0 : Aside0 (Below w.heap.size w w.drew) := ⟨below_drew (Below.refl _ _)⟩
  go_enter Tryd.func20, Tryd.ntmps20
  go_wp2
  refine start_ (n := 11) (S := fun w' => True) (ds := []) #[false, false, false, false, false, false, false, false, false, false, false] (by kernel_rfl) rfl rfl trivial (fun hHeld => ?_)
  refine pure_ (i := 0) (N := some 5) (v := ?_) (a' := ?_) #[true, false, false, false, false, false, false, false, false, false, false] rfl rfl (by kernel_rfl) (fun _ _ _ h => h) (Or.inl ⟨by rfl, ?_⟩) ?_ ?_
  rotate_left
  · intro w'
    go_simp
    with_reducible rfl
  rotate_left
  · simp only [Act.put, List.setIfInBounds_toArray, List.set_cons_zero, List.set_cons_succ, i64_w, i32_w]
    rfl
  refine pure_ (i := 1) (N := some 6) (v := ?_) (a' := ?_) #[true, true, false, false, false, false, false, false, false, false, false] rfl rfl (by kernel_rfl) (fun _ _ _ h => h) (Or.inl ⟨by rfl, ?_⟩) ?_ ?_
  rotate_left
  · intro w'
    go_simp
    with_reducible rfl
  rotate_left
  · simp only [Act.put, List.setIfInBounds_toArray, List.set_cons_zero, List.set_cons_succ, i64_w, i32_w]
    rfl
  refine pure_ (i := 4) (N := some 9) (v := ?_) (a' := ?_) #[true, true, false, false, true, false, false, false, false, false, false] rfl rfl (by kernel_rfl) (fun _ _ _ h => h) (Or.inl ⟨by rfl, ?_⟩) ?_ ?_
  rotate_left
  · intro w'
    go_simp
    with_reducible rfl
  rotate_left
  · simp only [Act.put, List.setIfInBounds_toArray, List.set_cons_zero, List.set_cons_succ, i64_w, i32_w]
    rfl
  refine pure_ (i := 5) (N := some 10) (v := ?_) (a' := ?_) #[true, true, false, false, true, true, false, false, false, false, false] rfl rfl (by kernel_rfl) (fun _ _ _ h => h) (Or.inl ⟨by rfl, ?_⟩) ?_ ?_
  rotate_left
  · intro w'
    go_simp
    with_reducible rfl
  rotate_left
  · simp only [Act.put, List.setIfInBounds_toArray, List.set_cons_zero, List.set_cons_succ, i64_w, i32_w]
    rfl
  refine pure_ (i := 8) (N := some 13) (v := ?_) (a' := ?_) #[true, true, false, false, true, true, false, false, true, false, false] rfl rfl (by kernel_rfl) (fun _ _ _ h => h) (Or.inl ⟨by rfl, ?_⟩) ?_ ?_
  rotate_left
  · intro w'
    go_simp
    with_reducible rfl
  rotate_left
  · simp only [Act.put, List.setIfInBounds_toArray, List.set_cons_zero, List.set_cons_succ, i64_w, i32_w]
    rfl
  refine join_ (σ := Value) 3 #[true, true, true, true, true, true, true, false, true, false, false] (fun s => [(7, s), (8, .string (strOfNums [k % 256])), (11, .string (lebS b.size))]) (fun s W => Below w.heap.size w W) ?_ ?_
  rotate_left
  · intro hCont
    refine two_ (i := 2) (j := 6) (Ni := some 7) (Nj := some 11) #[true, true, true, false, true, true, false, false, true, false, false] #[true, true, false, false, true, true, true, false, true, false, false] rfl rfl rfl rfl (by kernel_rfl) (by decide) (by decide) (fun K hK => ?_) (fun K hK => ?_)
    · skip
      refine lit_step ?hw (N := 7) ?hd (cs := #[.int .u8 (k % 256)]) (t := 5) (n := 1) ?hr ?_
      case hw => rfl
      case hd => rfl
      case hr => first | (go_simp; done) | (go_simp; rfl)
      intro g hg w1 hA hb
      have G1 := Aside0.mk hA
      have HB1 := Aside0.mk (below_step HB0.out hb)
      clear hA hb hg HB0
      refine hK.out _ _ trivial (fun hHeld => ?_)
      clear hK K
      refine norm_ (a' := ?_) ?_ ?_
      rotate_left
      · show Act.put _ (some 7) _ = _
        simp only [Act.put, List.setIfInBounds_toArray, List.set_cons_zero, List.set_cons_succ, i64_w, i32_w]
        rfl
      refine two_ (i := 3) (j := 6) (Ni := some 8) (Nj := some 11) #[true, true, true, true, true, true, false, false, true, false, false] #[true, true, true, false, true, true, true, false, true, false, false] rfl rfl rfl rfl (by kernel_rfl) (by decide) (by decide) (fun K hK => ?_) (fun K hK => ?_)
      · skip
        refine value_ (w1 := w1) (v := .string (strOfNums [k % 256])) (by rfl) rfl ?_ ?_
        · exact conv1 (k % 256) G1.out (by rfl)
        refine hK.out _ _ trivial (fun hHeld => ?_)
        clear hK K
        refine norm_ (a' := ?_) ?_ ?_
        rotate_left
        · show Act.put _ (some 8) _ = _
          simp only [Act.put, List.setIfInBounds_toArray, List.set_cons_zero, List.set_cons_succ, i64_w, i32_w]
          rfl
        refine one_ (i := 6) (N := some 11) #[true, true, true, true, true, true, true, false, true, false, false] rfl rfl (by kernel_rfl) (by decide) (fun K hK => ?_)
        refine goes_ Tryd.func17 (by kernel_rfl) rfl #[.int .i64 b.size] (by rfl) rfl rfl (by simp only [List.map_toArray, List.map_cons, List.map_nil]; rfl) ?_
        with_reducible refine (leb_is _ (Below.refl w1.heap.size w1)).mono ?_
        rintro e w2 ⟨rfl, hb⟩
        refine ⟨_, rfl, ?_⟩
        have HB2 := Aside0.mk (below_step HB1.out hb)
        have G1b := Aside0.mk (blk_below G1.out hb)
        clear G1
        have G1 := G1b
        clear G1b
        clear hb HB1
        refine hK.out _ _ trivial (fun hHeld => ?_)
        clear hK K
        refine norm_ (a' := ?_) ?_ ?_
        rotate_left
        · show Act.put _ (some 11) _ = _
          simp only [Act.put, List.setIfInBounds_toArray, List.set_cons_zero, List.set_cons_succ, i64_w, i32_w]
          rfl
        exact norm_ (by simp only [putAll, Act.put, List.setIfInBounds_toArray, List.set_cons_zero, List.set_cons_succ]) (hCont (.slice (some ⟨g, 0, none⟩) 1 1) _ HB2.out)
      · skip
        refine goes_ Tryd.func17 (by kernel_rfl) rfl #[.int .i64 b.size] (by rfl) rfl rfl (by simp only [List.map_toArray, List.map_cons, List.map_nil]; rfl) ?_
        with_reducible refine (leb_is _ (Below.refl w1.heap.size w1)).mono ?_
        rintro e w2 ⟨rfl, hb⟩
        refine ⟨_, rfl, ?_⟩
        have HB2 := Aside0.mk (below_step HB1.out hb)
        have G1b := Aside0.mk (blk_below G1.out hb)
        clear G1
        have G1 := G1b
        clear G1b
        clear hb HB1
        refine hK.out _ _ trivial (fun hHeld => ?_)
        clear hK K
        refine norm_ (a' := ?_) ?_ ?_
        rotate_left
        · show Act.put _ (some 11) _ = _
          simp only [Act.put, List.setIfInBounds_toArray, List.set_cons_zero, List.set_cons_succ, i64_w, i32_w]
          rfl
        refine one_ (i := 3) (N := some 8) #[true, true, true, true, true, true, true, false, true, false, false] rfl rfl (by kernel_rfl) (by decide) (fun K hK => ?_)
        refine value_ (w1 := w2) (v := .string (strOfNums [k % 256])) (by rfl) rfl ?_ ?_
        · exact conv1 (k % 256) G1.out (by rfl)
        refine hK.out _ _ trivial (fun hHeld => ?_)
        clear hK K
        refine norm_ (a' := ?_) ?_ ?_
        rotate_left
        · show Act.put _ (some 8) _ = _
          simp only [Act.put, List.setIfInBounds_toArray, List.set_cons_zero, List.set_cons_succ, i64_w, i32_w]
          rfl
        exact norm_ (by simp only [putAll, Act.put, List.setIfInBounds_toArray, List.set_cons_zero, List.set_cons_succ]) (hCont (.slice (some ⟨g, 0, none⟩) 1 1) _ HB2.out)
    · skip
      refine goes_ Tryd.func17 (by kernel_rfl) rfl #[.int .i64 b.size] (by rfl) rfl rfl (by simp only [List.map_toArray, List.map_cons, List.map_nil]; rfl) ?_
      with_reducible refine (leb_is _ (Below.refl w.drew.heap.size w.drew)).mono ?_
      rintro e w1 ⟨rfl, hb⟩
      refine ⟨_, rfl, ?_⟩
      have HB1 := Aside0.mk (below_step HB0.out hb)
      clear hb HB0
      refine hK.out _ _ trivial (fun hHeld => ?_)
      clear hK K
      refine norm_ (a' := ?_) ?_ ?_
      rotate_left
      · show Act.put _ (some 11) _ = _
        simp only [Act.put, List.setIfInBounds_toArray, List.set_cons_zero, List.set_cons_succ, i64_w, i32_w]
        rfl
      refine one_ (i := 2) (N := some 7) #[true, true, true, false, true, true, true, false, true, false, false] rfl rfl (by kernel_rfl) (by decide) (fun K hK => ?_)
      refine lit_step ?hw (N := 7) ?hd (cs := #[.int .u8 (k % 256)]) (t := 5) (n := 1) ?hr ?_
      case hw => rfl
      case hd => rfl
      case hr => first | (go_simp; done) | (go_simp; rfl)
      intro g hg w2 hA hb
      have G1 := Aside0.mk hA
      have HB2 := Aside0.mk (below_step HB1.out hb)
      clear hA hb hg HB1
      refine hK.out _ _ trivial (fun hHeld => ?_)
      clear hK K
      refine norm_ (a' := ?_) ?_ ?_
      rotate_left
      · show Act.put _ (some 7) _ = _
        simp only [Act.put, List.setIfInBounds_toArray, List.set_cons_zero, List.set_cons_succ, i64_w, i32_w]
        rfl
      refine one_ (i := 3) (N := some 8) #[true, true, true, true, true, true, true, false, true, false, false] rfl rfl (by kernel_rfl) (by decide) (fun K hK => ?_)
      refine value_ (w1 := w2) (v := .string (strOfNums [k % 256])) (by rfl) rfl ?_ ?_
      · exact conv1 (k % 256) G1.out (by rfl)
      refine hK.out _ _ trivial (fun hHeld => ?_)
      clear hK K
      refine norm_ (a' := ?_) ?_ ?_
      rotate_left
      · show Act.put _ (some 8) _ = _
        simp only [Act.put, List.setIfInBounds_toArray, List.set_cons_zero, List.set_cons_succ, i64_w, i32_w]
        rfl
      exact norm_ (by simp only [putAll, Act.put, List.setIfInBounds_toArray, List.set_cons_zero, List.set_cons_succ]) (hCont (.slice (some ⟨g, 0, none⟩) 1 1) _ HB2.out)
  rintro sv w4 hb4
  have HB4 := Aside0.mk hb4
  clear hb4
  have hHeld : True := trivial
  refine norm_ (a' := ?_) ?_ ?_
  rotate_left
  · simp only [putAll, Act.put, List.setIfInBounds_toArray, List.set_cons_zero, List.set_cons_succ]
    rfl
  refine pure_ (i := 7) (N := some 12) (v := ?_) (a' := ?_) #[true, true, true, true, true, true, true, true, true, false, false] rfl rfl (by kernel_rfl) (fun _ _ _ h => h) (Or.inl ⟨by rfl, ?_⟩) ?_ ?_
  rotate_left
  · intro w'
    go_simp
    with_reducible rfl
  rotate_left
  · simp only [Act.put, List.setIfInBounds_toArray, List.set_cons_zero, List.set_cons_succ, i64_w, i32_w]
    rfl
  refine pure_ (i := 9) (N := some 14) (v := ?_) (a' := ?_) #[true, true, true, true, true, true, true, true, true, true, false] rfl rfl (by kernel_rfl) (fun _ _ _ h => h) (Or.inl ⟨by rfl, ?_⟩) ?_ ?_
  rotate_left
  · intro w'
    go_simp
    with_reducible rfl
  rotate_left
  · simp only [Act.put, List.setIfInBounds_toArray, List.set_cons_zero, List.set_cons_succ, i64_w, i32_w]
    rfl
  refine pure_ (i := 10) (N := some 4) (v := ?_) (a' := ?_) #[true, true, true, true, true, true, true, true, true, true, true] rfl rfl (by kernel_rfl) (fun _ _ _ h => h) (Or.inl ⟨by rfl, ?_⟩) ?_ ?_
  rotate_left
  · intro w'
    go_simp
    with_reducible rfl
  rotate_left
  · simp only [Act.put, List.setIfInBounds_toArray, List.set_cons_zero, List.set_cons_succ, i64_w, i32_w]
    rfl
  refine done_ (by kernel_rfl) ?_

  go_wp2
  go_ret
  exact ⟨rfl, HB4.out⟩
theorem and7 (l : Int) : Go.bits .and .i64 l 7 = l % 8 := by
  have := LebMath.and_mask l 3 (by decide) 7 (by decide)
  simpa using this
theorem str_size (ds : List Int) : (strOfNums ds).size = ds.length := by simp [strOfNums, ByteArray.size]
theorem secS_size (k : Int) (b : ByteArray) : (secS k b).size ≤ 11 + b.size := by
  have := lebS_size b.size
  rw [secS, ByteArray.size_append, ByteArray.size_append, str_size]
  simp only [List.length_cons, List.length_nil]
  omega
theorem sum_ok {a b : Nat} (h : a + b ≤ 140737488355328) : ¬ 9223372036854775807 < a + b := by omega
end Go.Proofs.YtkdoijfjceeblaaDoor.EDec
