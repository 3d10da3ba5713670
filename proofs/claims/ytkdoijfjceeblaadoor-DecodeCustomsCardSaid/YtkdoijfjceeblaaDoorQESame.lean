/-
  What the claim leans on, cut to what is used (wip/tools/prune15.py): words, printed functions, walks.
-/
import Derived.Test.YtkdoijfjceeblaaDoorQF2
import Derived.Test.YtkdoijfjceeblaaDoorQE15A
namespace Go.Proofs.YtkdoijfjceeblaaDoor.ESame
open Go Go.RowKit Go.Proofs.YtkdoijfjceeblaaDoor.F Go.Proofs.YtkdoijfjceeblaaDoorW.Hand Go.Proofs.YtkdoijfjceeblaaDoorW.PrintWords Go.Proofs.YtkdoijfjceeblaaDoorW.PrintLast Go.Proofs.YtkdoijfjceeblaaDoorW.PrintMore
set_option linter.unusedVariables false
set_option linter.unusedSimpArgs false
theorem sameInts_run (l : List Int) (hl : l.length ≤ 9223372036854775807) : ∀ d i, i + d = l.length → peloruslaw0_SameInts.l0 (d + 1) l l (i : Int) = some true := by
 intro d
 induction d with
 | zero =>
  intro i hi
  rw [peloruslaw0_SameInts.l0, if_neg (by omega)]
 | succ d ih =>
  intro i hi
  rw [peloruslaw0_SameInts.l0, if_pos (by omega), if_pos (by omega), if_pos (by omega), if_pos rfl, show wrap64 ((i : Int) + 1) = ((i + 1 : Nat) : Int) by unfold wrap64; omega]
  exact ih (i + 1) (by omega)
theorem sameInts_eq {w : World} {A B : Option Addr} {c d : Nat} {l : List Int} (hA : (Kd.int .i64).C w A l.length l) (hc : l.length ≤ c) (hB : (Kd.int .i64).C w B l.length l) (hd : l.length ≤ d) :
  Calls Tryd.prog 30 #[.slice A l.length c, .slice B l.length d] w fun e w' => e = .returned (.bool true) ∧ Below w.heap.size w w' :=
 (peloruslaw0_SameInts.calls (l.length + 1) A c l B d l true w hA hc hB hd (by unfold peloruslaw0_SameInts.f; rw [if_pos rfl]; exact sameInts_run l (Kd.C_max hA) l.length 0 (by omega))).mono fun e w' h => ⟨h.1, h.2.below⟩
theorem rd110_mem {is : List S110} {i : Nat} (h : i < is.length) : rd_T110 is (i : Int) ∈ is := by
 unfold rd_T110
 rw [Int.toNat_natCast, List.getD_eq_getElem?_getD, List.getElem?_eq_getElem h]
 exact List.getElem_mem h
theorem size110 (x : S110) : SizeOf.sizeOf x.f6 < SizeOf.sizeOf x ∧ SizeOf.sizeOf x.f7 < SizeOf.sizeOf x := by
 cases x
 simp only [S110.mk.sizeOf_spec]
 omega
def RelS (w : World) (N n : Nat) (v5 : Value) (wr : World) : Prop := ∃ i : Nat, i + n = N ∧ v5 = .int .i64 i ∧ Below w.heap.size w wr
set_option maxHeartbeats 16000000 in
set_option maxRecDepth 100000 in
theorem same_size : ∀ (n : Nat) (is : List S110), SizeOf.sizeOf is ≤ n → ∀ (w : World) {A B : Option Addr} {c d : Nat}, k110.C w A is.length is → is.length ≤ c → k110.C w B is.length is → is.length ≤ d →
  Calls Tryd.prog 29 #[.slice A is.length c, .slice B is.length d] w fun e w' => e = .returned (.bool true) ∧ Below w.heap.size w w' := by
 intro n
 induction n with
 | zero =>
  intro is hn
  cases is <;> simp at hn
 | succ n ih =>
 intro is hn w A B c d hA hc hB hd
 have HA := am hA
 have HB := am hB
 have HN := am hn
 have hmax : is.length ≤ 9223372036854775807 := Kd.C_max hA
 clear hA hB hn
 go_enter Tryd.func29, Tryd.ntmps29
 go_wp2
 go_loopg [5] is.length (fun n v5 wr => RelS w is.length n v5 wr)
 case atStart => first | exact ⟨0, by omega, rfl, Below.refl _ _⟩ | exact ⟨0, by omega, rfl, below_drew (Below.refl _ _)⟩
 case round =>
  obtain ⟨i, hi, rfl, hb⟩ := hrel
  have I1 := am hi
  have HY0 := am hb
  clear hi hb
  by_cases hlt : i < is.length
  ·have dl : decide (i < is.length) = true := decide_eq_true hlt
   have dl2 : decide ((i : Int) < (is.length : Int)) = true := decide_eq_true (by omega)
   have hi0 : (0 : Int) ≤ (i : Int) := by omega
   have w1 : wrap64 ((i : Int) + 1) = (i : Int) + 1 := by unfold wrap64; omega
   have HLT := am hlt
   obtain ⟨ad, A5, a5c, A6, a6c, A7, a7c, eA, a0, a1, a2, a3, a4, a5, a6, a7, l5, C5, l6, C6, l7, C7⟩ := at_T110 (Kd.C_below HA.out HY0.out) (i : Int) (by omega) (by omega)
   obtain ⟨bd, B5, b5c, B6, b6c, B7, b7c, eB, b0, b1, b2, b3, b4, b5, b6, b7, m5, D5, m6, D6, m7, D7⟩ := at_T110 (Kd.C_below HB.out HY0.out) (i : Int) (by omega) (by omega)
   subst eA eB
   have hsz : SizeOf.sizeOf (rd_T110 is (i : Int)) < SizeOf.sizeOf is := List.sizeOf_lt_of_mem (rd110_mem hlt)
   have hs6 := size110 (rd_T110 is (i : Int))
   have SZ0 : SizeOf.sizeOf (rd_T110 is (i : Int)).f6 ≤ n ∧ SizeOf.sizeOf (rd_T110 is (i : Int)).f7 ≤ n := by have := HN.out; omega
   clear hsz hs6
   generalize rd_T110 is (i : Int) = x at *
   simp only [Int.toNat_natCast] at a0 a1 a2 a3 a4 a5 a6 a7 b0 b1 b2 b3 b4 b5 b6 b7
   have SZ := am SZ0
   have C5' := C5; have C6' := C6; have C7' := C7; have D5' := D5; have D6' := D6; have D7' := D7
   clear C5 C6 C7 D5 D6 D7 SZ0
   have C5 := am C5'
   have C6 := am C6'
   have C7 := am C7'
   have D5 := am D5'
   have D6 := am D6'
   have D7 := am D7'
   clear C5' C6' C7' D5' D6' D7'
   go_wp2
   refine start_ (n := 12) (S := fun w' => w'.cell? (ad.add (i * 8)) = some (.int .i64 x.f0) ∧ w'.cell? ⟨(ad.add (i * 8)).block, (ad.add (i * 8)).off + 1, none⟩ = some (.int .i64 x.f1) ∧ w'.cell? ⟨(ad.add (i * 8)).block, (ad.add (i * 8)).off + 2, none⟩ = some (.int .i64 x.f2) ∧ w'.cell? ⟨(ad.add (i * 8)).block, (ad.add (i * 8)).off + 3, none⟩ = some (.int .i64 x.f3) ∧ w'.cell? ⟨(ad.add (i * 8)).block, (ad.add (i * 8)).off + 4, none⟩ = some (.int .i64 x.f4) ∧ w'.cell? ⟨(ad.add (i * 8)).block, (ad.add (i * 8)).off + 5, none⟩ = some (.slice A5 x.f5.length a5c) ∧ w'.cell? ⟨(ad.add (i * 8)).block, (ad.add (i * 8)).off + 6, none⟩ = some (.slice A6 x.f6.length a6c) ∧ w'.cell? ⟨(ad.add (i * 8)).block, (ad.add (i * 8)).off + 7, none⟩ = some (.slice A7 x.f7.length a7c) ∧ w'.cell? (bd.add (i * 8)) = some (.int .i64 x.f0) ∧ w'.cell? ⟨(bd.add (i * 8)).block, (bd.add (i * 8)).off + 1, none⟩ = some (.int .i64 x.f1) ∧ w'.cell? ⟨(bd.add (i * 8)).block, (bd.add (i * 8)).off + 2, none⟩ = some (.int .i64 x.f2) ∧ w'.cell? ⟨(bd.add (i * 8)).block, (bd.add (i * 8)).off + 3, none⟩ = some (.int .i64 x.f3) ∧ w'.cell? ⟨(bd.add (i * 8)).block, (bd.add (i * 8)).off + 4, none⟩ = some (.int .i64 x.f4) ∧ w'.cell? ⟨(bd.add (i * 8)).block, (bd.add (i * 8)).off + 5, none⟩ = some (.slice B5 x.f5.length b5c) ∧ w'.cell? ⟨(bd.add (i * 8)).block, (bd.add (i * 8)).off + 6, none⟩ = some (.slice B6 x.f6.length b6c) ∧ w'.cell? ⟨(bd.add (i * 8)).block, (bd.add (i * 8)).off + 7, none⟩ = some (.slice B7 x.f7.length b7c)) (ds := [11]) #[false, false, false, false, false, false, false, false, false, false, false, false] (by kernel_rfl) rfl rfl ⟨a0, a1, a2, a3, a4, a5, a6, a7, b0, b1, b2, b3, b4, b5, b6, b7⟩ (fun hHeld => ?_)
   refine pu (i := 0) (N := some 19) (v := ?_) (a' := ?_) rfl rfl (by kernel_rfl) (fun _ _ _ h => h) (.inl ⟨by rfl, ?_⟩) ?_ ?_; rotate_left
   ·intro w'; go_simp; with_reducible rfl
   rotate_left; · simp only [Act.put, List.setIfInBounds_toArray, List.set_cons_zero, List.set_cons_succ, i64_w, i32_w]; rfl
   refine pu (i := 1) (N := some 20) (v := ?_) (a' := ?_) rfl rfl (by kernel_rfl) (fun _ _ _ h => h) (.inl ⟨by rfl, ?_⟩) ?_ ?_; rotate_left
   ·intro w'; go_simp; with_reducible rfl
   rotate_left; · simp only [Act.put, List.setIfInBounds_toArray, List.set_cons_zero, List.set_cons_succ, i64_w, i32_w]; rfl
   refine pu (i := 2) (N := some 21) (v := ?_) (a' := ?_) rfl rfl (by kernel_rfl) (fun _ _ _ h => h) (.inl ⟨by rfl, ?_⟩) ?_ ?_; rotate_left
   ·intro w'; go_simp; with_reducible rfl
   rotate_left; · simp only [Act.put, List.setIfInBounds_toArray, List.set_cons_zero, List.set_cons_succ, i64_w, i32_w]; rfl
   refine pu (i := 4) (N := some 23) (v := ?_) (a' := ?_) rfl rfl (by kernel_rfl) (fun _ _ _ h => h) (.inl ⟨by rfl, ?_⟩) ?_ ?_; rotate_left
   ·intro w'; go_simp; with_reducible rfl
   rotate_left; · simp only [Act.put, List.setIfInBounds_toArray, List.set_cons_zero, List.set_cons_succ, i64_w, i32_w]; rfl
   refine pu (i := 5) (N := some 24) (v := ?_) (a' := ?_) rfl rfl (by kernel_rfl) (fun _ _ _ h => h) (.inl ⟨by rfl, ?_⟩) ?_ ?_; rotate_left
   ·intro w'; go_simp; with_reducible rfl
   rotate_left; · simp only [Act.put, List.setIfInBounds_toArray, List.set_cons_zero, List.set_cons_succ, i64_w, i32_w]; rfl
   refine pu (i := 6) (N := some 25) (v := ?_) (a' := ?_) rfl rfl (by kernel_rfl) (fun _ _ _ h => h) (.inl ⟨by rfl, ?_⟩) ?_ ?_; rotate_left
   ·intro w'; go_simp; with_reducible rfl
   rotate_left; · simp only [Act.put, List.setIfInBounds_toArray, List.set_cons_zero, List.set_cons_succ, i64_w, i32_w]; rfl
   refine tu (i := 3) (N := some 22) (v := ?_) (a' := ?_) rfl rfl (by kernel_rfl) (fun _ _ _ h => h) (.inl ⟨by rfl, ?_⟩) hHeld ?_ ?_; rotate_left
   ·rintro w' ⟨s0, s1, s2, s3, s4, s5, s6, s7, s8, s9, s10, s11, s12, s13, s14, s15⟩; go_simp; with_reducible rfl
   rotate_left; · simp only [Act.put, List.setIfInBounds_toArray, List.set_cons_zero, List.set_cons_succ, i64_w, i32_w]; rfl
   refine tu (i := 7) (N := some 26) (v := ?_) (a' := ?_) rfl rfl (by kernel_rfl) (fun _ _ _ h => h) (.inl ⟨by rfl, ?_⟩) hHeld ?_ ?_; rotate_left
   ·rintro w' ⟨s0, s1, s2, s3, s4, s5, s6, s7, s8, s9, s10, s11, s12, s13, s14, s15⟩; go_simp; with_reducible rfl
   rotate_left; · simp only [Act.put, List.setIfInBounds_toArray, List.set_cons_zero, List.set_cons_succ, i64_w, i32_w]; rfl
   refine join_ (σ := Nat × Nat) 2 #[true, true, true, true, true, true, true, true, true, true, false, false] (fun s => [(6, .pointer (some ⟨s.1, 0, none⟩)), (7, .pointer (some ⟨s.2, 0, none⟩))]) (fun s W => W.heap[s.1]? = some (.cells #[.int .i64 0, .int .i64 0, .int .i64 0, .int .i64 0, .int .i64 0, .slice none 0 0, .slice none 0 0, .slice none 0 0] 110 (0, 0)) ∧ W.heap[s.2]? = some (.cells #[.int .i64 0, .int .i64 0, .int .i64 0, .int .i64 0, .int .i64 0, .slice none 0 0, .slice none 0 0, .slice none 0 0] 110 (0, 0)) ∧ wr.heap.size ≤ s.1 ∧ wr.heap.size ≤ s.2 ∧ s.1 ≠ s.2 ∧ Below wr.heap.size wr W) ?_ ?_
   rotate_left
   ·intro hCont
    refine two_ (i := 8) (j := 9) (Ni := some 6) (Nj := some 7) #[true, true, true, true, true, true, true, true, true, false, false, false] #[true, true, true, true, true, true, true, true, false, true, false, false] rfl rfl rfl rfl (by kernel_rfl) (by decide) (by decide) (fun K hK => ?_) (fun K hK => ?_)
    ·skip
     refine boxg_step ?hw (N := 6) ?hd (cs := #[.int .i64 0, .int .i64 0, .int .i64 0, .int .i64 0, .int .i64 0, .slice none 0 0, .slice none 0 0, .slice none 0 0]) (t := 110) ?hr ?_
     case hw => rfl
     case hd => rfl
     case hr => first | (go_simp; done) | (go_simp; rfl)
     intro ga hgga wa hA hb
     have H1 := am hA
     have HY1 : Aside0 (Below wr.heap.size wr wa) := ⟨below_step (below_drew (Below.refl _ _)) hb⟩
     have G1 : Aside0 (wr.heap.size ≤ ga) := ⟨by rw [hgga]; exact Nat.le_refl _⟩
     clear hA hb hgga
     refine hK.out _ _ ⟨pw_cell_below HY1.out a0, pw_cell_below HY1.out a1, pw_cell_below HY1.out a2, pw_cell_below HY1.out a3, pw_cell_below HY1.out a4, pw_cell_below HY1.out a5, pw_cell_below HY1.out a6, pw_cell_below HY1.out a7, pw_cell_below HY1.out b0, pw_cell_below HY1.out b1, pw_cell_below HY1.out b2, pw_cell_below HY1.out b3, pw_cell_below HY1.out b4, pw_cell_below HY1.out b5, pw_cell_below HY1.out b6, pw_cell_below HY1.out b7⟩ (fun hHeld => ?_)
     clear hK K
     refine norm_ (a' := ?_) ?_ ?_
     rotate_left
     ·show Act.put _ (some 6) _ = _
      simp only [Act.put, List.setIfInBounds_toArray, List.set_cons_zero, List.set_cons_succ, i64_w, i32_w]
      rfl
     refine one_ (i := 9) (N := some 7) #[true, true, true, true, true, true, true, true, true, true, false, false] rfl rfl (by kernel_rfl) (by decide) (fun K hK => ?_)
     refine boxg_step ?hw (N := 7) ?hd (cs := #[.int .i64 0, .int .i64 0, .int .i64 0, .int .i64 0, .int .i64 0, .slice none 0 0, .slice none 0 0, .slice none 0 0]) (t := 110) ?hr ?_
     case hw => rfl
     case hd => rfl
     case hr => first | (go_simp; done) | (go_simp; rfl)
     intro gb hggb wb hA hb
     have H2 := am hA
     have HY2 : Aside0 (Below wr.heap.size wr wb) := ⟨below_step HY1.out hb⟩
     have G2 : Aside0 (wr.heap.size ≤ gb) := ⟨by rw [hggb]; exact HY1.out.size⟩
     have H3 := am (blk_below H1.out hb)
     have NE : Aside0 (ga ≠ gb) := ⟨by have := blk_lt H1.out; omega⟩
     clear hA hb hggb
     refine hK.out _ _ ⟨pw_cell_below HY2.out a0, pw_cell_below HY2.out a1, pw_cell_below HY2.out a2, pw_cell_below HY2.out a3, pw_cell_below HY2.out a4, pw_cell_below HY2.out a5, pw_cell_below HY2.out a6, pw_cell_below HY2.out a7, pw_cell_below HY2.out b0, pw_cell_below HY2.out b1, pw_cell_below HY2.out b2, pw_cell_below HY2.out b3, pw_cell_below HY2.out b4, pw_cell_below HY2.out b5, pw_cell_below HY2.out b6, pw_cell_below HY2.out b7⟩ (fun hHeld => ?_)
     clear hK K
     refine norm_ (a' := ?_) ?_ ?_
     rotate_left
     ·show Act.put _ (some 7) _ = _
      simp only [Act.put, List.setIfInBounds_toArray, List.set_cons_zero, List.set_cons_succ, i64_w, i32_w]
      rfl
     exact norm_ (by simp only [putAll, Act.put, List.setIfInBounds_toArray, List.set_cons_zero, List.set_cons_succ]) (hCont (ga, gb) _ ⟨H3.out, H2.out, G1.out, G2.out, NE.out, HY2.out⟩)
    ·skip
     refine boxg_step ?hw (N := 7) ?hd (cs := #[.int .i64 0, .int .i64 0, .int .i64 0, .int .i64 0, .int .i64 0, .slice none 0 0, .slice none 0 0, .slice none 0 0]) (t := 110) ?hr ?_
     case hw => rfl
     case hd => rfl
     case hr => first | (go_simp; done) | (go_simp; rfl)
     intro gb hggb wa hA hb
     have H1 := am hA
     have HY1 : Aside0 (Below wr.heap.size wr wa) := ⟨below_step (below_drew (Below.refl _ _)) hb⟩
     have G1 : Aside0 (wr.heap.size ≤ gb) := ⟨by rw [hggb]; exact Nat.le_refl _⟩
     clear hA hb hggb
     refine hK.out _ _ ⟨pw_cell_below HY1.out a0, pw_cell_below HY1.out a1, pw_cell_below HY1.out a2, pw_cell_below HY1.out a3, pw_cell_below HY1.out a4, pw_cell_below HY1.out a5, pw_cell_below HY1.out a6, pw_cell_below HY1.out a7, pw_cell_below HY1.out b0, pw_cell_below HY1.out b1, pw_cell_below HY1.out b2, pw_cell_below HY1.out b3, pw_cell_below HY1.out b4, pw_cell_below HY1.out b5, pw_cell_below HY1.out b6, pw_cell_below HY1.out b7⟩ (fun hHeld => ?_)
     clear hK K
     refine norm_ (a' := ?_) ?_ ?_
     rotate_left
     ·show Act.put _ (some 7) _ = _
      simp only [Act.put, List.setIfInBounds_toArray, List.set_cons_zero, List.set_cons_succ, i64_w, i32_w]
      rfl
     refine one_ (i := 8) (N := some 6) #[true, true, true, true, true, true, true, true, true, true, false, false] rfl rfl (by kernel_rfl) (by decide) (fun K hK => ?_)
     refine boxg_step ?hw (N := 6) ?hd (cs := #[.int .i64 0, .int .i64 0, .int .i64 0, .int .i64 0, .int .i64 0, .slice none 0 0, .slice none 0 0, .slice none 0 0]) (t := 110) ?hr ?_
     case hw => rfl
     case hd => rfl
     case hr => first | (go_simp; done) | (go_simp; rfl)
     intro ga hgga wb hA hb
     have H2 := am hA
     have HY2 : Aside0 (Below wr.heap.size wr wb) := ⟨below_step HY1.out hb⟩
     have G2 : Aside0 (wr.heap.size ≤ ga) := ⟨by rw [hgga]; exact HY1.out.size⟩
     have H3 := am (blk_below H1.out hb)
     have NE : Aside0 (ga ≠ gb) := ⟨by have := blk_lt H1.out; omega⟩
     clear hA hb hgga
     refine hK.out _ _ ⟨pw_cell_below HY2.out a0, pw_cell_below HY2.out a1, pw_cell_below HY2.out a2, pw_cell_below HY2.out a3, pw_cell_below HY2.out a4, pw_cell_below HY2.out a5, pw_cell_below HY2.out a6, pw_cell_below HY2.out a7, pw_cell_below HY2.out b0, pw_cell_below HY2.out b1, pw_cell_below HY2.out b2, pw_cell_below HY2.out b3, pw_cell_below HY2.out b4, pw_cell_below HY2.out b5, pw_cell_below HY2.out b6, pw_cell_below HY2.out b7⟩ (fun hHeld => ?_)
     clear hK K
     refine norm_ (a' := ?_) ?_ ?_
     rotate_left
     ·show Act.put _ (some 6) _ = _
      simp only [Act.put, List.setIfInBounds_toArray, List.set_cons_zero, List.set_cons_succ, i64_w, i32_w]
      rfl
     exact norm_ (by simp only [putAll, Act.put, List.setIfInBounds_toArray, List.set_cons_zero, List.set_cons_succ]) (hCont (ga, gb) _ ⟨H2.out, H3.out, G2.out, G1.out, NE.out, HY2.out⟩)
   rintro ⟨ga, gb⟩ w3 ⟨h1, h2, h3, h4, h5, h6⟩
   have K1 := am h1
   have K2 := am h2
   have G1 := am h3
   have G2 := am h4
   have NE := am h5
   have HY := am h6
   clear h1 h2 h3 h4 h5 h6
   refine norm_ (a' := ?_) ?_ ?_
   rotate_left
   ·simp only [putAll, Act.put, List.setIfInBounds_toArray, List.set_cons_zero, List.set_cons_succ]
    rfl
   refine one_ (i := 10) (N := none) #[true, true, true, true, true, true, true, true, true, true, true, false] rfl rfl (by kernel_rfl) (by decide) (fun K hK => ?_)
   refine storeRow_step (g := ga) (by rfl) rfl rfl (cs := #[.int .i64 x.f0, .int .i64 x.f1, .int .i64 x.f2, .int .i64 x.f3, .int .i64 x.f4, .slice A5 x.f5.length a5c, .slice A6 x.f6.length a6c, .slice A7 x.f7.length a7c]) rfl rfl K1.out (by kernel_rfl) rfl (by simp [Value.oneCell']) ?_
   intro w4 hA hb ho hs
   have K3 := am hA
   have HY4 := am (hb _ _ G1.out HY.out)
   have K4 := am ((ho gb (Ne.symm NE.out)).trans K2.out)
   clear hA hb ho hs K1 K2
   refine hK.out _ _ ⟨pw_cell_below HY4.out a0, pw_cell_below HY4.out a1, pw_cell_below HY4.out a2, pw_cell_below HY4.out a3, pw_cell_below HY4.out a4, pw_cell_below HY4.out a5, pw_cell_below HY4.out a6, pw_cell_below HY4.out a7, pw_cell_below HY4.out b0, pw_cell_below HY4.out b1, pw_cell_below HY4.out b2, pw_cell_below HY4.out b3, pw_cell_below HY4.out b4, pw_cell_below HY4.out b5, pw_cell_below HY4.out b6, pw_cell_below HY4.out b7⟩ (fun hHeld => ?_)
   clear hK K
   refine last_ (i := 11) (N := none) #[true, true, true, true, true, true, true, true, true, true, true, true] rfl rfl (by kernel_rfl) (by decide) (fun K hK => ?_)
   refine storeRow_step (g := gb) (by rfl) rfl rfl (cs := #[.int .i64 x.f0, .int .i64 x.f1, .int .i64 x.f2, .int .i64 x.f3, .int .i64 x.f4, .slice B5 x.f5.length b5c, .slice B6 x.f6.length b6c, .slice B7 x.f7.length b7c]) rfl rfl K4.out (by kernel_rfl) rfl (by simp [Value.oneCell']) ?_
   intro w5 hA hb ho hs
   have HY5 := am (hb _ _ G2.out HY4.out)
   have p0 : w5.cell? ⟨ga, 0, none⟩ = some (.int .i64 x.f0) := (blk_cell ((ho ga NE.out).trans K3.out) 0)
   have p1 : w5.cell? ⟨ga, 1, none⟩ = some (.int .i64 x.f1) := (blk_cell ((ho ga NE.out).trans K3.out) 1)
   have p2 : w5.cell? ⟨ga, 2, none⟩ = some (.int .i64 x.f2) := (blk_cell ((ho ga NE.out).trans K3.out) 2)
   have p3 : w5.cell? ⟨ga, 3, none⟩ = some (.int .i64 x.f3) := (blk_cell ((ho ga NE.out).trans K3.out) 3)
   have p4 : w5.cell? ⟨ga, 4, none⟩ = some (.int .i64 x.f4) := (blk_cell ((ho ga NE.out).trans K3.out) 4)
   have p5 : w5.cell? ⟨ga, 5, none⟩ = some (.slice A5 x.f5.length a5c) := (blk_cell ((ho ga NE.out).trans K3.out) 5)
   have p6 : w5.cell? ⟨ga, 6, none⟩ = some (.slice A6 x.f6.length a6c) := (blk_cell ((ho ga NE.out).trans K3.out) 6)
   have p7 : w5.cell? ⟨ga, 7, none⟩ = some (.slice A7 x.f7.length a7c) := (blk_cell ((ho ga NE.out).trans K3.out) 7)
   have q0 : w5.cell? ⟨gb, 0, none⟩ = some (.int .i64 x.f0) := blk_cell hA 0
   have q1 : w5.cell? ⟨gb, 1, none⟩ = some (.int .i64 x.f1) := blk_cell hA 1
   have q2 : w5.cell? ⟨gb, 2, none⟩ = some (.int .i64 x.f2) := blk_cell hA 2
   have q3 : w5.cell? ⟨gb, 3, none⟩ = some (.int .i64 x.f3) := blk_cell hA 3
   have q4 : w5.cell? ⟨gb, 4, none⟩ = some (.int .i64 x.f4) := blk_cell hA 4
   have q5 : w5.cell? ⟨gb, 5, none⟩ = some (.slice B5 x.f5.length b5c) := blk_cell hA 5
   have q6 : w5.cell? ⟨gb, 6, none⟩ = some (.slice B6 x.f6.length b6c) := blk_cell hA 6
   have q7 : w5.cell? ⟨gb, 7, none⟩ = some (.slice B7 x.f7.length b7c) := blk_cell hA 7
   clear hA hb ho hs K3 K4 HY4
   refine hK.out _ _ ?_
   clear hK K
   refine done_ (by kernel_rfl) ?_

   go_wp2_with (first
    | (go_at_call 30; (with_reducible refine (sameInts_eq (Kd.C_below C5.out HY5.out) l5 (Kd.C_below D5.out HY5.out) m5).mono ?_); rintro e w6 ⟨rfl, hb⟩; have HY6 := am (below_step HY5.out hb); have p6' : w6.cell? ⟨ga, 6, none⟩ = some (.slice A6 x.f6.length a6c) := pw_cell_below hb p6; have p7' : w6.cell? ⟨ga, 7, none⟩ = some (.slice A7 x.f7.length a7c) := pw_cell_below hb p7; have q6' : w6.cell? ⟨gb, 6, none⟩ = some (.slice B6 x.f6.length b6c) := pw_cell_below hb q6; have q7' : w6.cell? ⟨gb, 7, none⟩ = some (.slice B7 x.f7.length b7c) := pw_cell_below hb q7; clear p6 p7 q6 q7; have p6 := p6'; have p7 := p7'; have q6 := q6'; have q7 := q7'; clear p6' p7' q6' q7'; clear hb HY5)
    | (go_at_call 29; (with_reducible refine (ih x.f6 (by have := SZ.out; omega) w6 (Kd.C_below C6.out HY6.out) l6 (Kd.C_below D6.out HY6.out) m6).mono ?_); rintro e w7 ⟨rfl, hb⟩; have HY7 := am (below_step HY6.out hb); have p6' : w7.cell? ⟨ga, 6, none⟩ = some (.slice A6 x.f6.length a6c) := pw_cell_below hb p6; have p7' : w7.cell? ⟨ga, 7, none⟩ = some (.slice A7 x.f7.length a7c) := pw_cell_below hb p7; have q6' : w7.cell? ⟨gb, 6, none⟩ = some (.slice B6 x.f6.length b6c) := pw_cell_below hb q6; have q7' : w7.cell? ⟨gb, 7, none⟩ = some (.slice B7 x.f7.length b7c) := pw_cell_below hb q7; clear p6 p7 q6 q7; have p6 := p6'; have p7 := p7'; have q6 := q6'; have q7 := q7'; clear p6' p7' q6' q7'; clear hb HY6)
    | (go_at_call 29; (with_reducible refine (ih x.f7 (by have := SZ.out; omega) w7 (Kd.C_below C7.out HY7.out) l7 (Kd.C_below D7.out HY7.out) m7).mono ?_); rintro e w8 ⟨rfl, hb⟩; have HY8 := am (below_step HY7.out hb); clear hb HY7))
   go_roundg (is.length - (i + 1))
   case measure => have := I1.out; have := HLT.out; omega
   case rel => exact ⟨i + 1, by have := HLT.out; omega, by go_num, below_step HY0.out HY8.out⟩
  ·have dl : decide (i < is.length) = false := decide_eq_false hlt
   have dl2 : decide ((i : Int) < (is.length : Int)) = false := decide_eq_false (by omega)
   go_wp2
   go_ret
   exact ⟨rfl, HY0.out⟩
end Go.Proofs.YtkdoijfjceeblaaDoor.ESame
