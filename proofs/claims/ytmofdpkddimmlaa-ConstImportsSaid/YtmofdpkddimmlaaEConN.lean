/-
  Constant expressions: package constx and its reference. constx.Value, Check, and the reference's. The reference's Const. Num; one instruction as a constant; awake of chapter 20.
-/
import Derived.Test.YtmofdpkddimmlaaEWalkN
import Derived.Test.YtmofdpkddimmlaaEChk
import Derived.Test.YtmofdpkddimmlaaEImp
import Derived.Test.YtmofdpkddimmlaaWFr2
namespace Go.Proofs.Ytmofdpkddimmlaa.EInstr
open Go Go.RowKit Go.Proofs.Ytmofdpkddimmlaa.F Go.Proofs.YtmofdpkddimmlaaW.Hand Go.Proofs.YtmofdpkddimmlaaW.PrintWords Go.Proofs.YtmofdpkddimmlaaW.PrintLast Go.Proofs.YtmofdpkddimmlaaW.PrintMore
open Go.Proofs.Ytmofdpkddimmlaa.EFty (cnt nth globalOf outAt global_calls many_calls imported_calls cells90)
set_option linter.unusedVariables false
set_option linter.unusedSimpArgs false
/-- The first instruction of a list. -/
def hd (is : List S106) : S106 := rd_T106 is 0
/-- Is a list one constant? -/
def isCon (is : List S106) : Prop := (is.length = 1 ∧ mayE is = 0) ∧ 65 ≤ (hd is).f0 ∧ (hd is).f0 ≤ 68
instance (is : List S106) : Decidable (isCon is) := inferInstanceAs (Decidable (_ ∧ _))
def conT (x : S106) : Int := 127 - (x.f0 - 65)
theorem hd_at {w : World} {A : Option Addr} {c : Nat} {is : List S106} (hA : k106.C w A is.length is) (hl : is.length = 1) : ∃ ad, A = some ad ∧ w.cell? ad = some (.int .i64 (hd is).f0) ∧ w.cell? ⟨ad.block, ad.off + 1, none⟩ = some (.int .i64 (hd is).f1) ∧ w.cell? ⟨ad.block, ad.off + 3, none⟩ = some (.int .i64 (hd is).f3) := by
  obtain ⟨ad, A5, c5, A6, c6, A7, c7, rfl, b0, b1, b2, b3, _⟩ := at_T106 hA 0 (by omega) (by omega)
  have ea : ad.add 0 = ad := rfl
  exact ⟨ad, rfl, by simpa [hd, ea] using b0, by simpa [hd, ea] using b1, by simpa [hd, ea] using b3⟩

theorem may_k {w : World} {is : List S106} {A : Option Addr} {c : Nat} {r : Int} (h : mayE is = r) (hA : k106.C w A is.length is) (hc : is.length ≤ c) : Calls Try.prog 65 #[.slice A is.length c] w fun e w' => e = .returned (.int .i64 r) ∧ Below w.heap.size w w' := h ▸ may_calls w is A c hA hc
theorem chk_k {w : World} {is : List S106} {A : Option Addr} {c : Nat} {r : Int} (h : chkE is = r) (hA : k106.C w A is.length is) (hc : is.length ≤ c) : Calls Try.prog 66 #[.slice A is.length c] w fun e w' => (∃ m : Nat, e = .returned (.tuple #[.int .i64 r, .int .i64 (m : Int)])) ∧ Below w.heap.size w w' := h ▸ chks_calls w is A c hA hc
/-- What constant answers. -/
def conV (is : List S106) : Value := if isCon is then .agg #[.int .i64 (conT (hd is)), .int .i64 (hd is).f3] else .agg #[.int .i64 0, .int .i64 0]
set_option maxHeartbeats 8000000 in
set_option maxRecDepth 100000 in
theorem constant_no {w : World} {is : List S106} {A : Option Addr} {c : Nat} (hn : ¬ isCon is) (hA : k106.C w A is.length is) (hc : is.length ≤ c) :
    Calls Try.prog 64 #[.slice A is.length c] w fun e w' => e = .returned (.tuple #[.agg #[.int .i64 0, .int .i64 0], .bool false]) ∧ Below w.heap.size w w' := by
  have HA := Aside0.mk hA
  have HC := Aside0.mk hc
  have HN := Aside0.mk hn
  clear hA hc hn
  by_cases hl : is.length = 1
  · obtain ⟨ad, rfl, e0, e1, e3⟩ := hd_at (c := c) HA.out hl
    have dl : ((is.length : Int) != 1) = false := by rw [hl]; rfl
    have hpos : 0 < is.length := by omega
    have E0 := Aside0.mk e0
    have HL := Aside0.mk hl
    clear e0 e1 e3
    by_cases he : mayE is = 0
    · have HE := Aside0.mk he
      clear he
      have hcc : (decide ((hd is).f0 < 65) = true) ∨ (decide ((hd is).f0 < 65) = false ∧ decide (68 < (hd is).f0) = true) := by
        by_cases h : (hd is).f0 < 65
        · exact .inl (decide_eq_true h)
        · exact .inr ⟨decide_eq_false h, decide_eq_true (by
            have := HN.out
            unfold isCon at this
            by_cases h2 : (hd is).f0 ≤ 68
            · exact absurd ⟨⟨HL.out, HE.out⟩, by omega, h2⟩ this
            · omega)⟩
      clear hl
      rcases hcc with d1 | ⟨d1, d2⟩
      all_goals
        go_enter Try.func64, Try.ntmps64
        go_wp2_with (first
          | ((with_reducible refine gate_dst (N := 2) rfl ?_); refine box_event ?hg (N := 2) ?hd (cs := #[.int .i64 0, .int .i64 0]) (t := 56) ?hr ?_; (case hd => rfl); (case hg => rfl); (case hr => first | (go_simp; done) | (go_simp; rfl)); intro g hgg w1 hA hb; have GE := Aside0.mk (show w.heap.size ≤ g by rw [hgg]; exact Nat.le_refl _); have HB1 := Aside0.mk hb; have K1 := Aside0.mk hA; clear hgg hA hb)
          | (go_at_call 65; (with_reducible refine (may_k HE.out (Kd.C_below HA.out HB1.out) HC.out).mono ?_); rintro e w2 ⟨rfl, hb⟩; have HB2 := Aside0.mk (below_step HB1.out hb); have K2 := Aside0.mk (blk_below K1.out hb); have z0 := pw_cell_below HB2.out E0.out; clear hb K1 HB1)
          | ((with_reducible refine gate_store (p := 2) rfl ?_); refine storeRow_event (g := g) rfl rfl rfl (cs := #[.int .i64 0, .int .i64 0]) rfl rfl K2.out (by kernel_rfl) rfl (by simp [Value.oneCell']) ?_; intro w3 hA hb ho hs; have HB3 := Aside0.mk (hb _ _ GE.out HB2.out); have y0 : w3.cell? ⟨g, 0, none⟩ = some (.int .i64 0) := blk_cell hA 0; have y1 : w3.cell? ⟨g, 1, none⟩ = some (.int .i64 0) := blk_cell hA 1; clear hA hb ho hs K2))
        exact bodyPost_ret (v := .tuple #[.agg #[.int .i64 0, .int .i64 0], .bool false]) (by simp [results, Try.f64, go_sem, y0, y1]) rfl ⟨rfl, HB3.out⟩
    · have HE := Aside0.mk (show mayE is = mayE is from rfl)
      have d0 : (mayE is != 0) = true := by simpa using he
      clear hl he
      go_enter Try.func64, Try.ntmps64
      go_wp2_with (first
        | ((with_reducible refine gate_dst (N := 2) rfl ?_); refine box_event ?hg (N := 2) ?hd (cs := #[.int .i64 0, .int .i64 0]) (t := 56) ?hr ?_; (case hd => rfl); (case hg => rfl); (case hr => first | (go_simp; done) | (go_simp; rfl)); intro g hgg w1 hA hb; have GE := Aside0.mk (show w.heap.size ≤ g by rw [hgg]; exact Nat.le_refl _); have HB1 := Aside0.mk hb; have K1 := Aside0.mk hA; clear hgg hA hb)
        | (go_at_call 65; (with_reducible refine (may_k HE.out (Kd.C_below HA.out HB1.out) HC.out).mono ?_); rintro e w2 ⟨rfl, hb⟩; have HB2 := Aside0.mk (below_step HB1.out hb); have K2 := Aside0.mk (blk_below K1.out hb); clear hb K1 HB1)
        | ((with_reducible refine gate_store (p := 2) rfl ?_); refine storeRow_event (g := g) rfl rfl rfl (cs := #[.int .i64 0, .int .i64 0]) rfl rfl K2.out (by kernel_rfl) rfl (by simp [Value.oneCell']) ?_; intro w3 hA hb ho hs; have HB3 := Aside0.mk (hb _ _ GE.out HB2.out); have y0 : w3.cell? ⟨g, 0, none⟩ = some (.int .i64 0) := blk_cell hA 0; have y1 : w3.cell? ⟨g, 1, none⟩ = some (.int .i64 0) := blk_cell hA 1; clear hA hb ho hs K2))
      exact bodyPost_ret (v := .tuple #[.agg #[.int .i64 0, .int .i64 0], .bool false]) (by simp [results, Try.f64, go_sem, y0, y1]) rfl ⟨rfl, HB3.out⟩
  · have dl : ((is.length : Int) != 1) = true := by simp; omega
    clear hl
    go_enter Try.func64, Try.ntmps64
    go_wp2_with (first
      | ((with_reducible refine gate_dst (N := 2) rfl ?_); refine box_event ?hg (N := 2) ?hd (cs := #[.int .i64 0, .int .i64 0]) (t := 56) ?hr ?_; (case hd => rfl); (case hg => rfl); (case hr => first | (go_simp; done) | (go_simp; rfl)); intro g hgg w1 hA hb; have GE := Aside0.mk (show w.heap.size ≤ g by rw [hgg]; exact Nat.le_refl _); have HB1 := Aside0.mk hb; have K1 := Aside0.mk hA; clear hgg hA hb)
      | ((with_reducible refine gate_store (p := 2) rfl ?_); refine storeRow_event (g := g) rfl rfl rfl (cs := #[.int .i64 0, .int .i64 0]) rfl rfl K1.out (by kernel_rfl) rfl (by simp [Value.oneCell']) ?_; intro w3 hA hb ho hs; have HB3 := Aside0.mk (hb _ _ GE.out HB1.out); have y0 : w3.cell? ⟨g, 0, none⟩ = some (.int .i64 0) := blk_cell hA 0; have y1 : w3.cell? ⟨g, 1, none⟩ = some (.int .i64 0) := blk_cell hA 1; clear hA hb ho hs K1))
    exact bodyPost_ret (v := .tuple #[.agg #[.int .i64 0, .int .i64 0], .bool false]) (by simp [results, Try.f64, go_sem, y0, y1]) rfl ⟨rfl, HB3.out⟩
set_option maxHeartbeats 8000000 in
set_option maxRecDepth 100000 in
theorem constant_yes {w : World} {is : List S106} {A : Option Addr} {c : Nat} (hy : isCon is) (hA : k106.C w A is.length is) (hc : is.length ≤ c) :
    Calls Try.prog 64 #[.slice A is.length c] w fun e w' => e = .returned (.tuple #[.agg #[.int .i64 (conT (hd is)), .int .i64 (hd is).f3], .bool true]) ∧ Below w.heap.size w w' := by
  obtain ⟨⟨hl, he⟩, h1, h2⟩ := hy
  have HA := Aside0.mk hA
  have HC := Aside0.mk hc
  have HE := Aside0.mk he
  obtain ⟨ad, rfl, e0, e1, e3⟩ := hd_at (c := c) hA hl
  have dl : ((is.length : Int) != 1) = false := by rw [hl]; rfl
  have hpos : 0 < is.length := by omega
  have d1 : decide ((hd is).f0 < 65) = false := decide_eq_false (by omega)
  have d2 : decide (68 < (hd is).f0) = false := decide_eq_false (by omega)
  have wa : wrap64 ((hd is).f0 - 65) = (hd is).f0 - 65 := by unfold wrap64; omega
  have wb : wrap64 (127 - ((hd is).f0 - 65)) = conT (hd is) := by unfold wrap64 conT; omega
  have wc : IntKind.i64.wrap ((hd is).f0 - 65) = (hd is).f0 - 65 := (i64_w _).trans wa
  have wdd : IntKind.i64.wrap (127 - ((hd is).f0 - 65)) = conT (hd is) := (i64_w _).trans wb
  generalize hd is = x at *
  have E0 := Aside0.mk e0
  have E3 := Aside0.mk e3
  clear hA hc he hl h1 h2 e0 e1 e3
  go_enter Try.func64, Try.ntmps64
  go_wp2_with (first
    | ((with_reducible refine gate_dst (N := 2) rfl ?_); refine box_event ?hg (N := 2) ?hd (cs := #[.int .i64 0, .int .i64 0]) (t := 56) ?hr ?_; (case hd => rfl); (case hg => rfl); (case hr => first | (go_simp; done) | (go_simp; rfl)); intro g hgg w1 hA hb; have GE := Aside0.mk (show w.heap.size ≤ g by rw [hgg]; exact Nat.le_refl _); have HB1 := Aside0.mk hb; have K1 := Aside0.mk hA; clear hgg hA hb)
    | (go_at_call 65; (with_reducible refine (may_k HE.out (Kd.C_below HA.out HB1.out) HC.out).mono ?_); rintro e w2 ⟨rfl, hb⟩; have HB2 := Aside0.mk (below_step HB1.out hb); have K2 := Aside0.mk (blk_below K1.out hb); have z0 := pw_cell_below HB2.out E0.out; have z3 := pw_cell_below HB2.out E3.out; clear hb K1 HB1))
  refine start_ (n := 13) (S := fun w' => w'.cell? ad = some (.int .i64 x.f0) ∧ w'.cell? ⟨ad.block, ad.off + 3, none⟩ = some (.int .i64 x.f3)) (ds := [11]) #[false, false, false, false, false, false, false, false, false, false, false, false, false] (by kernel_rfl) rfl rfl ⟨z0, z3⟩ (fun hHeld => ?_)
  refine pure_ (i := 0) (N := some 27) (v := ?_) (a' := ?_) #[true, false, false, false, false, false, false, false, false, false, false, false, false] rfl rfl (by kernel_rfl) (fun _ _ _ h => h) (Or.inl ⟨by rfl, ?_⟩) ?_ ?_
  rotate_left
  · intro w'
    go_simp
    with_reducible rfl
  rotate_left
  · simp only [Act.put, List.setIfInBounds_toArray, List.set_cons_zero, List.set_cons_succ, i64_w, i32_w]
    rfl
  refine pure_ (i := 1) (N := some 28) (v := ?_) (a' := ?_) #[true, true, false, false, false, false, false, false, false, false, false, false, false] rfl rfl (by kernel_rfl) (fun _ _ _ h => h) (Or.inl ⟨by rfl, ?_⟩) ?_ ?_
  rotate_left
  · intro w'
    go_simp
    with_reducible rfl
  rotate_left
  · simp only [Act.put, List.setIfInBounds_toArray, List.set_cons_zero, List.set_cons_succ, i64_w, i32_w]
    rfl
  refine pure_ (i := 2) (N := some 29) (v := ?_) (a' := ?_) #[true, true, true, false, false, false, false, false, false, false, false, false, false] rfl rfl (by kernel_rfl) (fun _ _ _ h => h) (Or.inl ⟨by rfl, ?_⟩) ?_ ?_
  rotate_left
  · intro w'
    go_simp
    with_reducible rfl
  rotate_left
  · simp only [Act.put, List.setIfInBounds_toArray, List.set_cons_zero, List.set_cons_succ, i64_w, i32_w]
    rfl
  refine pure_ (i := 6) (N := some 33) (v := ?_) (a' := ?_) #[true, true, true, false, false, false, true, false, false, false, false, false, false] rfl rfl (by kernel_rfl) (fun _ _ _ h => h) (Or.inl ⟨by rfl, ?_⟩) ?_ ?_
  rotate_left
  · intro w'
    go_simp
    with_reducible rfl
  rotate_left
  · simp only [Act.put, List.setIfInBounds_toArray, List.set_cons_zero, List.set_cons_succ, i64_w, i32_w]
    rfl
  refine pure_ (i := 7) (N := some 34) (v := ?_) (a' := ?_) #[true, true, true, false, false, false, true, true, false, false, false, false, false] rfl rfl (by kernel_rfl) (fun _ _ _ h => h) (Or.inl ⟨by rfl, ?_⟩) ?_ ?_
  rotate_left
  · intro w'
    go_simp
    with_reducible rfl
  rotate_left
  · simp only [Act.put, List.setIfInBounds_toArray, List.set_cons_zero, List.set_cons_succ, i64_w, i32_w]
    rfl
  refine pure_ (i := 8) (N := some 35) (v := ?_) (a' := ?_) #[true, true, true, false, false, false, true, true, true, false, false, false, false] rfl rfl (by kernel_rfl) (fun _ _ _ h => h) (Or.inl ⟨by rfl, ?_⟩) ?_ ?_
  rotate_left
  · intro w'
    go_simp
    with_reducible rfl
  rotate_left
  · simp only [Act.put, List.setIfInBounds_toArray, List.set_cons_zero, List.set_cons_succ, i64_w, i32_w]
    rfl
  refine take_ (i := 3) (N := some 30) (v := ?_) (a' := ?_) #[true, true, true, true, false, false, true, true, true, false, false, false, false] rfl rfl (by kernel_rfl) (fun _ _ _ h => h) (Or.inl ⟨by rfl, ?_⟩) hHeld ?_ ?_
  rotate_left
  · rintro w' ⟨s0, s1⟩
    go_simp
    with_reducible rfl
  rotate_left
  · simp only [Act.put, List.setIfInBounds_toArray, List.set_cons_zero, List.set_cons_succ, i64_w, i32_w]
    rfl
  refine pure_ (i := 4) (N := some 31) (v := ?_) (a' := ?_) #[true, true, true, true, true, false, true, true, true, false, false, false, false] rfl rfl (by kernel_rfl) (fun _ _ _ h => h) (Or.inl ⟨by rfl, ?_⟩) ?_ ?_
  rotate_left
  · intro w'
    go_simp
    with_reducible rfl
  rotate_left
  · simp only [Act.put, List.setIfInBounds_toArray, List.set_cons_zero, List.set_cons_succ, i64_w, i32_w]
    rfl
  refine pure_ (i := 5) (N := some 32) (v := ?_) (a' := ?_) #[true, true, true, true, true, true, true, true, true, false, false, false, false] rfl rfl (by kernel_rfl) (fun _ _ _ h => h) (Or.inl ⟨by rfl, ?_⟩) ?_ ?_
  rotate_left
  · intro w'
    go_simp
    with_reducible rfl
  rotate_left
  · simp only [Act.put, List.setIfInBounds_toArray, List.set_cons_zero, List.set_cons_succ, i64_w, i32_w]
    rfl
  refine take_ (i := 9) (N := some 36) (v := ?_) (a' := ?_) #[true, true, true, true, true, true, true, true, true, true, false, false, false] rfl rfl (by kernel_rfl) (fun _ _ _ h => h) (Or.inl ⟨by rfl, ?_⟩) hHeld ?_ ?_
  rotate_left
  · rintro w' ⟨s0, s1⟩
    go_simp
    with_reducible rfl
  rotate_left
  · simp only [Act.put, List.setIfInBounds_toArray, List.set_cons_zero, List.set_cons_succ, i64_w, i32_w]
    rfl
  refine pure_ (i := 10) (N := some 37) (v := ?_) (a' := ?_) #[true, true, true, true, true, true, true, true, true, true, true, false, false] rfl rfl (by kernel_rfl) (fun _ _ _ h => h) (Or.inl ⟨by rfl, ?_⟩) ?_ ?_
  rotate_left
  · intro w'
    go_simp
    with_reducible rfl
  rotate_left
  · simp only [Act.put, List.setIfInBounds_toArray, List.set_cons_zero, List.set_cons_succ, i64_w, i32_w]
    rfl
  refine last_ (i := 11) (N := none) #[true, true, true, true, true, true, true, true, true, true, true, true, false] rfl rfl (by kernel_rfl) (by decide) (fun K hK => ?_)
  refine storeRow_step (g := g) (by rfl) rfl rfl (cs := #[.int .i64 (conT x), .int .i64 x.f3]) rfl rfl K2.out (by kernel_rfl) rfl (by simp [Value.oneCell']) ?_
  intro w9 hA hb ho hs
  have HB9 := Aside0.mk (hb _ _ GE.out (below_drew HB2.out))
  have y0 : w9.cell? ⟨g, 0, none⟩ = some (.int .i64 (conT x)) := blk_cell hA 0
  have y1 : w9.cell? ⟨g, 1, none⟩ = some (.int .i64 x.f3) := blk_cell hA 1
  clear hA hb ho hs
  refine hK.out _ _ ?_
  clear hK K
  refine pure_ (i := 12) (N := some 3) (v := ?_) (a' := ?_) #[true, true, true, true, true, true, true, true, true, true, true, true, true] rfl rfl (by kernel_rfl) (fun _ _ _ h => h) (Or.inl ⟨by rfl, ?_⟩) ?_ ?_
  rotate_left
  · intro w'
    go_simp
    with_reducible rfl
  rotate_left
  · simp only [Act.put, List.setIfInBounds_toArray, List.set_cons_zero, List.set_cons_succ, i64_w, i32_w]
    rfl
  refine done_ (by kernel_rfl) ?_
  go_wp2
  exact bodyPost_ret (v := .tuple #[.agg #[.int .i64 (conT x), .int .i64 x.f3], .bool true]) (by simp [results, Try.f64, go_sem, y0, y1]) rfl ⟨rfl, HB9.out⟩
end Go.Proofs.Ytmofdpkddimmlaa.EInstr
namespace Go.Proofs.Ytmofdpkddimmlaa.EInstr
open Go Go.RowKit Go.Proofs.Ytmofdpkddimmlaa.F Go.Proofs.YtmofdpkddimmlaaW.Hand Go.Proofs.YtmofdpkddimmlaaW.PrintWords Go.Proofs.YtmofdpkddimmlaaW.PrintLast Go.Proofs.YtmofdpkddimmlaaW.PrintMore
open Go.Proofs.Ytmofdpkddimmlaa.EFty (cnt nth globalOf outAt global_calls many_calls imported_calls cells90 cnt_le)
set_option linter.unusedVariables false
set_option linter.unusedSimpArgs false
theorem may_hd {is : List S106} (hl : is.length = 1) (he : mayE is = 0) : mayB (hd is) = true := by
  match is, hl with
  | [x], _ =>
    have h1 : hd [x] = x := rfl
    rw [h1]
    unfold mayE at he
    rw [pre_one, scanE_cons] at he
    by_cases h2 : stepE (0 + 1) (0, x) = 0
    · unfold stepE at h2
      split at h2
      · cases h2
      · split at h2
        · cases h2
        · rename_i h3 h4
          cases hm : mayB x with
          | true => rfl
          | false => exact absurd (Or.inr hm) h4
    · rw [if_neg h2] at he
      exact absurd he h2
theorem may_get {x : S106} (h : mayB x = true) (hf : x.f0 = 35) : 0 ≤ x.f1 ∧ x.f1 ≤ 4294967295 := by
  have hk : ofF x.f0 = 3 := by rw [hf]; decide
  unfold mayB mayA at h
  rw [hk] at h
  simp [u32B] at h
  omega
def constE (imps : List S90) (is : List S106) (t : Int) : Int :=
  if isCon is then (if conT (hd is) = t then 0 else 2001)
  else if (is.length = 1 ∧ mayE is = 0) ∧ (hd is).f0 = 35 ∧ (hd is).f1 < (cnt imps 3 imps.length : Int) ∧ (nth imps 3 (hd is).f1).f4 = false then (if (nth imps 3 (hd is).f1).f3 = t then 0 else 2001) else 2000
def valE (is : List S106) : Int := if isCon is then 0 else 2000
def valT (is : List S106) : Int := if isCon is then conT (hd is) else 0
def valB (is : List S106) : Int := if isCon is then (hd is).f3 else 0
set_option maxHeartbeats 8000000 in
set_option maxRecDepth 100000 in
theorem value_yes {w : World} {imps : List S90} {gs : List S93} {is : List S106} {A : Option Addr} {c : Nat} (A0 Ai A2 A3 A4 Ag A6 A8 A9 A10 : Option Addr) (n0 n2 n3 n4 n6 n8 n9 n10 c0 ci c2 c3 c4 cg c6 c8 c9 c10 : Nat) (st : Int) (hy : isCon is) (hA : k106.C w A is.length is) (hc : is.length ≤ c) :
    Calls Try.prog 42 #[.agg #[.slice A0 n0 c0, .slice Ai imps.length ci, .slice A2 n2 c2, .slice A3 n3 c3, .slice A4 n4 c4, .slice Ag gs.length cg, .slice A6 n6 c6, .int .i64 st, .slice A8 n8 c8, .slice A9 n9 c9, .slice A10 n10 c10], .slice A is.length c] w fun e w' => e = .returned (.tuple #[.agg #[.int .i64 (conT (hd is)), .int .i64 (hd is).f3], .int .i64 0]) ∧ Below w.heap.size w w' := by
  have HA := Aside0.mk hA
  have HC := Aside0.mk hc
  have HY := Aside0.mk hy
  clear hA hc hy
  go_enter Try.func42, Try.ntmps42
  go_wp2_with (first
    | ((with_reducible refine gate_dst (N := 2) rfl ?_); refine box_event ?hg (N := 2) ?hd (cs := #[.slice A0 n0 c0, .slice Ai imps.length ci, .slice A2 n2 c2, .slice A3 n3 c3, .slice A4 n4 c4, .slice Ag gs.length cg, .slice A6 n6 c6, .int .i64 st, .slice A8 n8 c8, .slice A9 n9 c9, .slice A10 n10 c10]) (t := 69) ?hr ?_; (case hd => rfl); (case hg => rfl); (case hr => first | (go_simp; done) | (go_simp; rfl)); intro gm hggm w1 hA hb; have GM := Aside0.mk (show w.heap.size ≤ gm by rw [hggm]; exact Nat.le_refl _); have HB1 := Aside0.mk hb; have KM1 := Aside0.mk hA; clear hggm hA hb)
    | ((with_reducible refine gate_dst (N := 4) rfl ?_); refine box_event ?hg (N := 4) ?hd (cs := #[.int .i64 0, .int .i64 0]) (t := 56) ?hr ?_; (case hd => rfl); (case hg => rfl); (case hr => first | (go_simp; done) | (go_simp; rfl)); intro g4 hgg4 w2 hA hb; have G4 := Aside0.mk (show w.heap.size ≤ g4 by rw [hgg4]; exact HB1.out.size); have HB2 := Aside0.mk (below_step HB1.out hb); have K4 := Aside0.mk hA; clear hgg4 hA hb HB1 KM1)
    | (go_at_call 64; (with_reducible refine (constant_yes HY.out (Kd.C_below HA.out HB2.out) HC.out).mono ?_); rintro e w3 ⟨rfl, hb⟩; have HB3 := Aside0.mk (below_step HB2.out hb); have K4b := Aside0.mk (blk_below K4.out hb); clear hb HB2 K4)
    | ((with_reducible refine gate_dst (N := 6) rfl ?_); refine box_event ?hg (N := 6) ?hd (cs := #[.int .i64 0, .int .i64 0]) (t := 56) ?hr ?_; (case hd => rfl); (case hg => rfl); (case hr => first | (go_simp; done) | (go_simp; rfl)); intro g6 hgg6 w4 hA hb; have G6 := Aside0.mk (show w.heap.size ≤ g6 by rw [hgg6]; exact HB3.out.size); have HB4 := Aside0.mk (below_step HB3.out hb); have K6 := Aside0.mk hA; have K4c := Aside0.mk (blk_below K4b.out hb); have NE := Aside0.mk (show g4 ≠ g6 by rw [hgg6]; exact Nat.ne_of_lt (blk_lt K4b.out)); clear hgg6 hA hb HB3 K4b)
    | ((with_reducible refine gate_store (p := 6) rfl ?_); refine storeRow_event (g := g6) rfl rfl rfl (cs := #[.int .i64 (conT (hd is)), .int .i64 (hd is).f3]) rfl rfl K6.out (by kernel_rfl) rfl (by simp [Value.oneCell']) ?_; intro w5 hA hb ho hs; have HB5 := Aside0.mk (hb _ _ G6.out HB4.out); have x0 : w5.cell? ⟨g6, 0, none⟩ = some (.int .i64 (conT (hd is))) := blk_cell hA 0; have x1 : w5.cell? ⟨g6, 1, none⟩ = some (.int .i64 (hd is).f3) := blk_cell hA 1; have K4d := Aside0.mk ((ho g4 NE.out).trans K4c.out); clear hA hb ho hs K6 HB4 K4c)
    | ((with_reducible refine gate_store (p := 4) rfl ?_); refine storeRow_event (g := g4) rfl rfl rfl (cs := #[.int .i64 (conT (hd is)), .int .i64 (hd is).f3]) rfl rfl K4d.out (by kernel_rfl) rfl (by simp [Value.oneCell']) ?_; intro w6 hA hb ho hs; have HB6 := Aside0.mk (hb _ _ G4.out HB5.out); have y0 : w6.cell? ⟨g4, 0, none⟩ = some (.int .i64 (conT (hd is))) := blk_cell hA 0; have y1 : w6.cell? ⟨g4, 1, none⟩ = some (.int .i64 (hd is).f3) := blk_cell hA 1; clear hA hb ho hs K4d HB5))
  exact bodyPost_ret (v := .tuple #[.agg #[.int .i64 (conT (hd is)), .int .i64 (hd is).f3], .int .i64 0]) (by simp [results, Try.f42, go_sem, y0, y1]) rfl ⟨rfl, HB6.out⟩
set_option maxHeartbeats 8000000 in
set_option maxRecDepth 100000 in
theorem value_no {w : World} {imps : List S90} {gs : List S93} {is : List S106} {A : Option Addr} {c : Nat} (A0 Ai A2 A3 A4 Ag A6 A8 A9 A10 : Option Addr) (n0 n2 n3 n4 n6 n8 n9 n10 c0 ci c2 c3 c4 cg c6 c8 c9 c10 : Nat) (st : Int) (hy : ¬ isCon is) (hA : k106.C w A is.length is) (hc : is.length ≤ c) :
    Calls Try.prog 42 #[.agg #[.slice A0 n0 c0, .slice Ai imps.length ci, .slice A2 n2 c2, .slice A3 n3 c3, .slice A4 n4 c4, .slice Ag gs.length cg, .slice A6 n6 c6, .int .i64 st, .slice A8 n8 c8, .slice A9 n9 c9, .slice A10 n10 c10], .slice A is.length c] w fun e w' => e = .returned (.tuple #[.agg #[.int .i64 0, .int .i64 0], .int .i64 2000]) ∧ Below w.heap.size w w' := by
  have HA := Aside0.mk hA
  have HC := Aside0.mk hc
  have HY := Aside0.mk hy
  clear hA hc hy
  go_enter Try.func42, Try.ntmps42
  go_wp2_with (first
    | ((with_reducible refine gate_dst (N := 2) rfl ?_); refine box_event ?hg (N := 2) ?hd (cs := #[.slice A0 n0 c0, .slice Ai imps.length ci, .slice A2 n2 c2, .slice A3 n3 c3, .slice A4 n4 c4, .slice Ag gs.length cg, .slice A6 n6 c6, .int .i64 st, .slice A8 n8 c8, .slice A9 n9 c9, .slice A10 n10 c10]) (t := 69) ?hr ?_; (case hd => rfl); (case hg => rfl); (case hr => first | (go_simp; done) | (go_simp; rfl)); intro gm hggm w1 hA hb; have GM := Aside0.mk (show w.heap.size ≤ gm by rw [hggm]; exact Nat.le_refl _); have HB1 := Aside0.mk hb; have KM1 := Aside0.mk hA; clear hggm hA hb)
    | ((with_reducible refine gate_dst (N := 4) rfl ?_); refine box_event ?hg (N := 4) ?hd (cs := #[.int .i64 0, .int .i64 0]) (t := 56) ?hr ?_; (case hd => rfl); (case hg => rfl); (case hr => first | (go_simp; done) | (go_simp; rfl)); intro g4 hgg4 w2 hA hb; have G4 := Aside0.mk (show w.heap.size ≤ g4 by rw [hgg4]; exact HB1.out.size); have HB2 := Aside0.mk (below_step HB1.out hb); have K4 := Aside0.mk hA; clear hgg4 hA hb HB1 KM1)
    | (go_at_call 64; (with_reducible refine (constant_no HY.out (Kd.C_below HA.out HB2.out) HC.out).mono ?_); rintro e w3 ⟨rfl, hb⟩; have HB3 := Aside0.mk (below_step HB2.out hb); have K4b := Aside0.mk (blk_below K4.out hb); clear hb HB2 K4)
    | ((with_reducible refine gate_dst (N := 6) rfl ?_); refine box_event ?hg (N := 6) ?hd (cs := #[.int .i64 0, .int .i64 0]) (t := 56) ?hr ?_; (case hd => rfl); (case hg => rfl); (case hr => first | (go_simp; done) | (go_simp; rfl)); intro g6 hgg6 w4 hA hb; have G6 := Aside0.mk (show w.heap.size ≤ g6 by rw [hgg6]; exact HB3.out.size); have HB4 := Aside0.mk (below_step HB3.out hb); have K6 := Aside0.mk hA; have K4c := Aside0.mk (blk_below K4b.out hb); have NE := Aside0.mk (show g4 ≠ g6 by rw [hgg6]; exact Nat.ne_of_lt (blk_lt K4b.out)); clear hgg6 hA hb HB3 K4b)
    | ((with_reducible refine gate_store (p := 6) rfl ?_); refine storeRow_event (g := g6) rfl rfl rfl (cs := #[.int .i64 0, .int .i64 0]) rfl rfl K6.out (by kernel_rfl) rfl (by simp [Value.oneCell']) ?_; intro w5 hA hb ho hs; have HB5 := Aside0.mk (hb _ _ G6.out HB4.out); have x0 : w5.cell? ⟨g6, 0, none⟩ = some (.int .i64 0) := blk_cell hA 0; have x1 : w5.cell? ⟨g6, 1, none⟩ = some (.int .i64 0) := blk_cell hA 1; have K4d := Aside0.mk ((ho g4 NE.out).trans K4c.out); clear hA hb ho hs K6 HB4 K4c)
    | ((with_reducible refine gate_store (p := 4) rfl ?_); refine storeRow_event (g := g4) rfl rfl rfl (cs := #[.int .i64 0, .int .i64 0]) rfl rfl K4d.out (by kernel_rfl) rfl (by simp [Value.oneCell']) ?_; intro w6 hA hb ho hs; have HB6 := Aside0.mk (hb _ _ G4.out HB5.out); have y0 : w6.cell? ⟨g4, 0, none⟩ = some (.int .i64 0) := blk_cell hA 0; have y1 : w6.cell? ⟨g4, 1, none⟩ = some (.int .i64 0) := blk_cell hA 1; clear hA hb ho hs K4d HB5))
  exact bodyPost_ret (v := .tuple #[.agg #[.int .i64 0, .int .i64 0], .int .i64 2000]) (by simp [results, Try.f42, go_sem, y0, y1]) rfl ⟨rfl, HB6.out⟩
theorem value_calls {w : World} {imps : List S90} {gs : List S93} {is : List S106} {A : Option Addr} {c : Nat} (A0 Ai A2 A3 A4 Ag A6 A8 A9 A10 : Option Addr) (n0 n2 n3 n4 n6 n8 n9 n10 c0 ci c2 c3 c4 cg c6 c8 c9 c10 : Nat) (st : Int) (hA : k106.C w A is.length is) (hc : is.length ≤ c) :
    Calls Try.prog 42 #[.agg #[.slice A0 n0 c0, .slice Ai imps.length ci, .slice A2 n2 c2, .slice A3 n3 c3, .slice A4 n4 c4, .slice Ag gs.length cg, .slice A6 n6 c6, .int .i64 st, .slice A8 n8 c8, .slice A9 n9 c9, .slice A10 n10 c10], .slice A is.length c] w fun e w' => e = .returned (.tuple #[.agg #[.int .i64 (valT is), .int .i64 (valB is)], .int .i64 (valE is)]) ∧ Below w.heap.size w w' := by
  unfold valT valB valE
  by_cases h : isCon is
  · simp only [if_pos h]
    exact value_yes A0 Ai A2 A3 A4 Ag A6 A8 A9 A10 n0 n2 n3 n4 n6 n8 n9 n10 c0 ci c2 c3 c4 cg c6 c8 c9 c10 st h hA hc
  · simp only [if_neg h]
    exact value_no A0 Ai A2 A3 A4 Ag A6 A8 A9 A10 n0 n2 n3 n4 n6 n8 n9 n10 c0 ci c2 c3 c4 cg c6 c8 c9 c10 st h hA hc
set_option maxHeartbeats 8000000 in
set_option maxRecDepth 100000 in
theorem rvalue_yes {w : World} {is : List S106} {A : Option Addr} {c : Nat} (hy : isCon is) (hA : k106.C w A is.length is) (hc : is.length ≤ c) :
    Calls Try.prog 43 #[.slice A is.length c] w fun e w' => e = .returned (.tuple #[.agg #[.int .i64 (conT (hd is)), .int .i64 (hd is).f3], .int .i64 0]) ∧ Below w.heap.size w w' := by
  obtain ⟨⟨hl, he⟩, h1, h2⟩ := hy
  have HA := Aside0.mk hA
  have HC := Aside0.mk hc
  have HE := Aside0.mk ((may_chk is).1 he)
  obtain ⟨ad, rfl, e0, e1, e3⟩ := hd_at (c := c) hA hl
  have dl : ((is.length : Int) != 1) = false := by rw [hl]; rfl
  have hpos : 0 < is.length := by omega
  have d1 : decide ((hd is).f0 < 65) = false := decide_eq_false (by omega)
  have d2 : decide (68 < (hd is).f0) = false := decide_eq_false (by omega)
  have wa : wrap64 ((hd is).f0 - 65) = (hd is).f0 - 65 := by unfold wrap64; omega
  have wb : wrap64 (127 - ((hd is).f0 - 65)) = conT (hd is) := by unfold wrap64 conT; omega
  have wc : IntKind.i64.wrap ((hd is).f0 - 65) = (hd is).f0 - 65 := (i64_w _).trans wa
  have wdd : IntKind.i64.wrap (127 - ((hd is).f0 - 65)) = conT (hd is) := (i64_w _).trans wb
  generalize hd is = x at *
  have E0 := Aside0.mk e0
  have E3 := Aside0.mk e3
  clear hA hc he hl h1 h2 e0 e1 e3
  go_enter Try.func43, Try.ntmps43
  go_wp2_with (first
    | ((with_reducible refine gate_dst (N := 2) rfl ?_); refine box_event ?hg (N := 2) ?hd (cs := #[.int .i64 0, .int .i64 0]) (t := 56) ?hr ?_; (case hd => rfl); (case hg => rfl); (case hr => first | (go_simp; done) | (go_simp; rfl)); intro g hgg w1 hA hb; have GE := Aside0.mk (show w.heap.size ≤ g by rw [hgg]; exact Nat.le_refl _); have HB1 := Aside0.mk hb; have K1 := Aside0.mk hA; clear hgg hA hb)
    | (go_at_call 66; (with_reducible refine (chk_k HE.out (Kd.C_below HA.out HB1.out) HC.out).mono ?_); rintro e w2 ⟨⟨mm, rfl⟩, hb⟩; have HB2 := Aside0.mk (below_step HB1.out hb); have K2 := Aside0.mk (blk_below K1.out hb); have z0 := pw_cell_below HB2.out E0.out; have z3 := pw_cell_below HB2.out E3.out; clear hb K1 HB1))
  refine start_ (n := 13) (S := fun w' => w'.cell? ad = some (.int .i64 x.f0) ∧ w'.cell? ⟨ad.block, ad.off + 3, none⟩ = some (.int .i64 x.f3)) (ds := [11]) #[false, false, false, false, false, false, false, false, false, false, false, false, false] (by kernel_rfl) rfl rfl ⟨z0, z3⟩ (fun hHeld => ?_)
  refine pure_ (i := 0) (N := some 33) (v := ?_) (a' := ?_) #[true, false, false, false, false, false, false, false, false, false, false, false, false] rfl rfl (by kernel_rfl) (fun _ _ _ h => h) (Or.inl ⟨by rfl, ?_⟩) ?_ ?_
  rotate_left
  · intro w'
    go_simp
    with_reducible rfl
  rotate_left
  · simp only [Act.put, List.setIfInBounds_toArray, List.set_cons_zero, List.set_cons_succ, i64_w, i32_w]
    rfl
  refine pure_ (i := 1) (N := some 34) (v := ?_) (a' := ?_) #[true, true, false, false, false, false, false, false, false, false, false, false, false] rfl rfl (by kernel_rfl) (fun _ _ _ h => h) (Or.inl ⟨by rfl, ?_⟩) ?_ ?_
  rotate_left
  · intro w'
    go_simp
    with_reducible rfl
  rotate_left
  · simp only [Act.put, List.setIfInBounds_toArray, List.set_cons_zero, List.set_cons_succ, i64_w, i32_w]
    rfl
  refine pure_ (i := 2) (N := some 35) (v := ?_) (a' := ?_) #[true, true, true, false, false, false, false, false, false, false, false, false, false] rfl rfl (by kernel_rfl) (fun _ _ _ h => h) (Or.inl ⟨by rfl, ?_⟩) ?_ ?_
  rotate_left
  · intro w'
    go_simp
    with_reducible rfl
  rotate_left
  · simp only [Act.put, List.setIfInBounds_toArray, List.set_cons_zero, List.set_cons_succ, i64_w, i32_w]
    rfl
  refine pure_ (i := 6) (N := some 39) (v := ?_) (a' := ?_) #[true, true, true, false, false, false, true, false, false, false, false, false, false] rfl rfl (by kernel_rfl) (fun _ _ _ h => h) (Or.inl ⟨by rfl, ?_⟩) ?_ ?_
  rotate_left
  · intro w'
    go_simp
    with_reducible rfl
  rotate_left
  · simp only [Act.put, List.setIfInBounds_toArray, List.set_cons_zero, List.set_cons_succ, i64_w, i32_w]
    rfl
  refine pure_ (i := 7) (N := some 40) (v := ?_) (a' := ?_) #[true, true, true, false, false, false, true, true, false, false, false, false, false] rfl rfl (by kernel_rfl) (fun _ _ _ h => h) (Or.inl ⟨by rfl, ?_⟩) ?_ ?_
  rotate_left
  · intro w'
    go_simp
    with_reducible rfl
  rotate_left
  · simp only [Act.put, List.setIfInBounds_toArray, List.set_cons_zero, List.set_cons_succ, i64_w, i32_w]
    rfl
  refine pure_ (i := 8) (N := some 41) (v := ?_) (a' := ?_) #[true, true, true, false, false, false, true, true, true, false, false, false, false] rfl rfl (by kernel_rfl) (fun _ _ _ h => h) (Or.inl ⟨by rfl, ?_⟩) ?_ ?_
  rotate_left
  · intro w'
    go_simp
    with_reducible rfl
  rotate_left
  · simp only [Act.put, List.setIfInBounds_toArray, List.set_cons_zero, List.set_cons_succ, i64_w, i32_w]
    rfl
  refine take_ (i := 3) (N := some 36) (v := ?_) (a' := ?_) #[true, true, true, true, false, false, true, true, true, false, false, false, false] rfl rfl (by kernel_rfl) (fun _ _ _ h => h) (Or.inl ⟨by rfl, ?_⟩) hHeld ?_ ?_
  rotate_left
  · rintro w' ⟨s0, s1⟩
    go_simp
    with_reducible rfl
  rotate_left
  · simp only [Act.put, List.setIfInBounds_toArray, List.set_cons_zero, List.set_cons_succ, i64_w, i32_w]
    rfl
  refine pure_ (i := 4) (N := some 37) (v := ?_) (a' := ?_) #[true, true, true, true, true, false, true, true, true, false, false, false, false] rfl rfl (by kernel_rfl) (fun _ _ _ h => h) (Or.inl ⟨by rfl, ?_⟩) ?_ ?_
  rotate_left
  · intro w'
    go_simp
    with_reducible rfl
  rotate_left
  · simp only [Act.put, List.setIfInBounds_toArray, List.set_cons_zero, List.set_cons_succ, i64_w, i32_w]
    rfl
  refine pure_ (i := 5) (N := some 38) (v := ?_) (a' := ?_) #[true, true, true, true, true, true, true, true, true, false, false, false, false] rfl rfl (by kernel_rfl) (fun _ _ _ h => h) (Or.inl ⟨by rfl, ?_⟩) ?_ ?_
  rotate_left
  · intro w'
    go_simp
    with_reducible rfl
  rotate_left
  · simp only [Act.put, List.setIfInBounds_toArray, List.set_cons_zero, List.set_cons_succ, i64_w, i32_w]
    rfl
  refine take_ (i := 9) (N := some 42) (v := ?_) (a' := ?_) #[true, true, true, true, true, true, true, true, true, true, false, false, false] rfl rfl (by kernel_rfl) (fun _ _ _ h => h) (Or.inl ⟨by rfl, ?_⟩) hHeld ?_ ?_
  rotate_left
  · rintro w' ⟨s0, s1⟩
    go_simp
    with_reducible rfl
  rotate_left
  · simp only [Act.put, List.setIfInBounds_toArray, List.set_cons_zero, List.set_cons_succ, i64_w, i32_w]
    rfl
  refine pure_ (i := 10) (N := some 43) (v := ?_) (a' := ?_) #[true, true, true, true, true, true, true, true, true, true, true, false, false] rfl rfl (by kernel_rfl) (fun _ _ _ h => h) (Or.inl ⟨by rfl, ?_⟩) ?_ ?_
  rotate_left
  · intro w'
    go_simp
    with_reducible rfl
  rotate_left
  · simp only [Act.put, List.setIfInBounds_toArray, List.set_cons_zero, List.set_cons_succ, i64_w, i32_w]
    rfl
  refine last_ (i := 11) (N := none) #[true, true, true, true, true, true, true, true, true, true, true, true, false] rfl rfl (by kernel_rfl) (by decide) (fun K hK => ?_)
  refine storeRow_step (g := g) (by rfl) rfl rfl (cs := #[.int .i64 (conT x), .int .i64 x.f3]) rfl rfl K2.out (by kernel_rfl) rfl (by simp [Value.oneCell']) ?_
  intro w9 hA hb ho hs
  have HB9 := Aside0.mk (hb _ _ GE.out (below_drew HB2.out))
  have y0 : w9.cell? ⟨g, 0, none⟩ = some (.int .i64 (conT x)) := blk_cell hA 0
  have y1 : w9.cell? ⟨g, 1, none⟩ = some (.int .i64 x.f3) := blk_cell hA 1
  clear hA hb ho hs
  refine hK.out _ _ ?_
  clear hK K
  refine pure_ (i := 12) (N := some 3) (v := ?_) (a' := ?_) #[true, true, true, true, true, true, true, true, true, true, true, true, true] rfl rfl (by kernel_rfl) (fun _ _ _ h => h) (Or.inl ⟨by rfl, ?_⟩) ?_ ?_
  rotate_left
  · intro w'
    go_simp
    with_reducible rfl
  rotate_left
  · simp only [Act.put, List.setIfInBounds_toArray, List.set_cons_zero, List.set_cons_succ, i64_w, i32_w]
    rfl
  refine done_ (by kernel_rfl) ?_
  go_wp2
  exact bodyPost_ret (v := .tuple #[.agg #[.int .i64 (conT x), .int .i64 x.f3], .int .i64 0]) (by simp [results, Try.f43, go_sem, y0, y1]) rfl ⟨rfl, HB9.out⟩
set_option maxHeartbeats 8000000 in
set_option maxRecDepth 100000 in
theorem rvalue_no {w : World} {is : List S106} {A : Option Addr} {c : Nat} (hn : ¬ isCon is) (hA : k106.C w A is.length is) (hc : is.length ≤ c) :
    Calls Try.prog 43 #[.slice A is.length c] w fun e w' => e = .returned (.tuple #[.agg #[.int .i64 0, .int .i64 0], .int .i64 2000]) ∧ Below w.heap.size w w' := by
  have HA := Aside0.mk hA
  have HC := Aside0.mk hc
  have HN := Aside0.mk hn
  have HE := Aside0.mk (show chkE is = chkE is from rfl)
  clear hA hc hn
  by_cases hl : is.length = 1
  · obtain ⟨ad, rfl, e0, e1, e3⟩ := hd_at (c := c) HA.out hl
    have dl : ((is.length : Int) != 1) = false := by rw [hl]; rfl
    have hpos : 0 < is.length := by omega
    have E0 := Aside0.mk e0
    have HL := Aside0.mk hl
    clear e0 e1 e3
    by_cases he : chkE is = 0
    · have hcc : (decide ((hd is).f0 < 65) = true) ∨ (decide ((hd is).f0 < 65) = false ∧ decide (68 < (hd is).f0) = true) := by
        by_cases h : (hd is).f0 < 65
        · exact .inl (decide_eq_true h)
        · exact .inr ⟨decide_eq_false h, decide_eq_true (by
            have := HN.out
            unfold isCon at this
            by_cases h2 : (hd is).f0 ≤ 68
            · exact absurd ⟨⟨HL.out, (may_chk is).2 he⟩, by omega, h2⟩ this
            · omega)⟩
      have de : (chkE is != 0) = false := by rw [he]; rfl
      clear hl he
      rcases hcc with d1 | ⟨d1, d2⟩
      all_goals
        go_enter Try.func43, Try.ntmps43
        go_wp2_with (first
          | ((with_reducible refine gate_dst (N := 2) rfl ?_); refine box_event ?hg (N := 2) ?hd (cs := #[.int .i64 0, .int .i64 0]) (t := 56) ?hr ?_; (case hd => rfl); (case hg => rfl); (case hr => first | (go_simp; done) | (go_simp; rfl)); intro g hgg w1 hA hb; have GE := Aside0.mk (show w.heap.size ≤ g by rw [hgg]; exact Nat.le_refl _); have HB1 := Aside0.mk hb; have K1 := Aside0.mk hA; clear hgg hA hb)
          | (go_at_call 66; (with_reducible refine (chk_k HE.out (Kd.C_below HA.out HB1.out) HC.out).mono ?_); rintro e w2 ⟨⟨mm, rfl⟩, hb⟩; have HB2 := Aside0.mk (below_step HB1.out hb); have K2 := Aside0.mk (blk_below K1.out hb); have z0 := pw_cell_below HB2.out E0.out; clear hb K1 HB1)
          | ((with_reducible refine gate_store (p := 2) rfl ?_); refine storeRow_event (g := g) rfl rfl rfl (cs := #[.int .i64 0, .int .i64 0]) rfl rfl K2.out (by kernel_rfl) rfl (by simp [Value.oneCell']) ?_; intro w3 hA hb ho hs; have HB3 := Aside0.mk (hb _ _ GE.out HB2.out); have y0 : w3.cell? ⟨g, 0, none⟩ = some (.int .i64 0) := blk_cell hA 0; have y1 : w3.cell? ⟨g, 1, none⟩ = some (.int .i64 0) := blk_cell hA 1; clear hA hb ho hs HB2 K2))
        exact bodyPost_ret (v := .tuple #[.agg #[.int .i64 0, .int .i64 0], .int .i64 2000]) (by simp [results, Try.f43, go_sem, y0, y1]) rfl ⟨rfl, HB3.out⟩
    · have de : (chkE is != 0) = true := by simpa using he
      clear hl he
      go_enter Try.func43, Try.ntmps43
      go_wp2_with (first
        | ((with_reducible refine gate_dst (N := 2) rfl ?_); refine box_event ?hg (N := 2) ?hd (cs := #[.int .i64 0, .int .i64 0]) (t := 56) ?hr ?_; (case hd => rfl); (case hg => rfl); (case hr => first | (go_simp; done) | (go_simp; rfl)); intro g hgg w1 hA hb; have GE := Aside0.mk (show w.heap.size ≤ g by rw [hgg]; exact Nat.le_refl _); have HB1 := Aside0.mk hb; have K1 := Aside0.mk hA; clear hgg hA hb)
        | (go_at_call 66; (with_reducible refine (chk_k HE.out (Kd.C_below HA.out HB1.out) HC.out).mono ?_); rintro e w2 ⟨⟨mm, rfl⟩, hb⟩; have HB2 := Aside0.mk (below_step HB1.out hb); have K2 := Aside0.mk (blk_below K1.out hb); clear hb K1 HB1)
        | ((with_reducible refine gate_store (p := 2) rfl ?_); refine storeRow_event (g := g) rfl rfl rfl (cs := #[.int .i64 0, .int .i64 0]) rfl rfl K2.out (by kernel_rfl) rfl (by simp [Value.oneCell']) ?_; intro w3 hA hb ho hs; have HB3 := Aside0.mk (hb _ _ GE.out HB2.out); have y0 : w3.cell? ⟨g, 0, none⟩ = some (.int .i64 0) := blk_cell hA 0; have y1 : w3.cell? ⟨g, 1, none⟩ = some (.int .i64 0) := blk_cell hA 1; clear hA hb ho hs HB2 K2))
      exact bodyPost_ret (v := .tuple #[.agg #[.int .i64 0, .int .i64 0], .int .i64 2000]) (by simp [results, Try.f43, go_sem, y0, y1]) rfl ⟨rfl, HB3.out⟩
  · have dl : ((is.length : Int) != 1) = true := by simp; omega
    clear hl
    go_enter Try.func43, Try.ntmps43
    go_wp2_with (first
      | ((with_reducible refine gate_dst (N := 2) rfl ?_); refine box_event ?hg (N := 2) ?hd (cs := #[.int .i64 0, .int .i64 0]) (t := 56) ?hr ?_; (case hd => rfl); (case hg => rfl); (case hr => first | (go_simp; done) | (go_simp; rfl)); intro g hgg w1 hA hb; have GE := Aside0.mk (show w.heap.size ≤ g by rw [hgg]; exact Nat.le_refl _); have HB1 := Aside0.mk hb; have K1 := Aside0.mk hA; clear hgg hA hb)
      | (go_at_call 66; (with_reducible refine (chk_k HE.out (Kd.C_below HA.out HB1.out) HC.out).mono ?_); rintro e w2 ⟨⟨mm, rfl⟩, hb⟩; have HB2 := Aside0.mk (below_step HB1.out hb); have K2 := Aside0.mk (blk_below K1.out hb); clear hb K1 HB1)
      | ((with_reducible refine gate_store (p := 2) rfl ?_); refine storeRow_event (g := g) rfl rfl rfl (cs := #[.int .i64 0, .int .i64 0]) rfl rfl K2.out (by kernel_rfl) rfl (by simp [Value.oneCell']) ?_; intro w3 hA hb ho hs; have HB3 := Aside0.mk (hb _ _ GE.out HB2.out); have y0 : w3.cell? ⟨g, 0, none⟩ = some (.int .i64 0) := blk_cell hA 0; have y1 : w3.cell? ⟨g, 1, none⟩ = some (.int .i64 0) := blk_cell hA 1; clear hA hb ho hs HB2 K2))
    exact bodyPost_ret (v := .tuple #[.agg #[.int .i64 0, .int .i64 0], .int .i64 2000]) (by simp [results, Try.f43, go_sem, y0, y1]) rfl ⟨rfl, HB3.out⟩
theorem rvalue_calls {w : World} {is : List S106} {A : Option Addr} {c : Nat} (hA : k106.C w A is.length is) (hc : is.length ≤ c) :
    Calls Try.prog 43 #[.slice A is.length c] w fun e w' => e = .returned (.tuple #[.agg #[.int .i64 (valT is), .int .i64 (valB is)], .int .i64 (valE is)]) ∧ Below w.heap.size w w' := by
  unfold valT valB valE
  by_cases h : isCon is
  · simp only [if_pos h]
    exact rvalue_yes h hA hc
  · simp only [if_neg h]
    exact rvalue_no h hA hc
set_option maxHeartbeats 8000000 in
set_option maxRecDepth 100000 in
theorem check_yes {w : World} {imps : List S90} {gs : List S93} {is : List S106} {A : Option Addr} {c : Nat} (A0 Ai A2 A3 A4 Ag A6 A8 A9 A10 : Option Addr) (n0 n2 n3 n4 n6 n8 n9 n10 c0 ci c2 c3 c4 cg c6 c8 c9 c10 : Nat) (st : Int) {t : Int} (hlen : imps.length ≤ 140737488351232) (hgl : gs.length ≤ 140737488351232) (hI : k90.C w Ai imps.length imps) (hG : k93.C w Ag gs.length gs) (hA : k106.C w A is.length is) (hc : is.length ≤ c) (hy : isCon is) : Calls Try.prog 41 #[.agg #[.slice A0 n0 c0, .slice Ai imps.length ci, .slice A2 n2 c2, .slice A3 n3 c3, .slice A4 n4 c4, .slice Ag gs.length cg, .slice A6 n6 c6, .int .i64 st, .slice A8 n8 c8, .slice A9 n9 c9, .slice A10 n10 c10], .slice A is.length c, .int .i64 t] w fun e w' => e = .returned (.int .i64 (constE imps is t)) ∧ Below w.heap.size w w' := by
  have HA := Aside0.mk hA
  have HC := Aside0.mk hc
  have HY := Aside0.mk hy
  have hr : ∀ b : Bool, (conT (hd is) != t) = b → constE imps is t = if b then 2001 else 0 := fun b hb => by
    unfold constE
    rw [if_pos hy]
    cases b
    · rw [if_pos (by simpa using hb)]; rfl
    · rw [if_neg (by simpa using hb)]; rfl
  clear hA hc hy hI hG hlen hgl
  cases dt : (conT (hd is) != t) with
  | true =>
    have HR := Aside0.mk (hr true dt)
    clear hr
    go_enter Try.func41, Try.ntmps41
    go_wp2_with (first
      | ((with_reducible refine gate_dst (N := 3) rfl ?_); refine box_event ?hg (N := 3) ?hd (cs := #[.slice A0 n0 c0, .slice Ai imps.length ci, .slice A2 n2 c2, .slice A3 n3 c3, .slice A4 n4 c4, .slice Ag gs.length cg, .slice A6 n6 c6, .int .i64 st, .slice A8 n8 c8, .slice A9 n9 c9, .slice A10 n10 c10]) (t := 69) ?hr ?_; (case hd => rfl); (case hg => rfl); (case hr => first | (go_simp; done) | (go_simp; rfl)); intro gm hggm w1 hA hb; have GM := Aside0.mk (show w.heap.size ≤ gm ∧ gm < w1.heap.size by rw [hggm]; exact ⟨Nat.le_refl _, hggm ▸ blk_lt hA⟩); have HB1 := Aside0.mk hb; have KM1 := Aside0.mk hA; clear hggm hA hb)
      | (go_at_call 64; (with_reducible refine (constant_yes HY.out (Kd.C_below HA.out HB1.out) HC.out).mono ?_); rintro e w2 ⟨rfl, hb⟩; have HB2 := Aside0.mk (below_step HB1.out hb); have KM2 := Aside0.mk (blk_below KM1.out hb); clear hb HB1 KM1)
      | ((with_reducible refine gate_dst (N := 7) rfl ?_); refine box_event ?hg (N := 7) ?hd (cs := #[.int .i64 0, .int .i64 0]) (t := 56) ?hr ?_; (case hd => rfl); (case hg => rfl); (case hr => first | (go_simp; done) | (go_simp; rfl)); intro g7 hgg7 w3 hA hb; have G7 := Aside0.mk (show w.heap.size ≤ g7 by rw [hgg7]; exact HB2.out.size); have HB3 := Aside0.mk (below_step HB2.out hb); have K7 := Aside0.mk hA; have KM3 := Aside0.mk (blk_below KM2.out hb); have NE := Aside0.mk (show gm ≠ g7 by rw [hgg7]; exact Nat.ne_of_lt (blk_lt KM2.out)); clear hgg7 hA hb HB2 KM2)
      | ((with_reducible refine gate_store (p := 7) rfl ?_); refine storeRow_event (g := g7) rfl rfl rfl (cs := #[.int .i64 (conT (hd is)), .int .i64 (hd is).f3]) rfl rfl K7.out (by kernel_rfl) rfl (by simp [Value.oneCell']) ?_; intro w4 hA hb ho hs; have HB4 := Aside0.mk (hb _ _ G7.out HB3.out); have x0 : w4.cell? ⟨g7, 0, none⟩ = some (.int .i64 (conT (hd is))) := blk_cell hA 0; have KM4 := Aside0.mk ((ho gm NE.out).trans KM3.out); clear hA hb ho hs K7 HB3 KM3))
    go_ret
    exact ⟨by rw [HR.out]; rfl, HB4.out⟩
  | false =>
    have HR := Aside0.mk (hr false dt)
    clear hr
    go_enter Try.func41, Try.ntmps41
    go_wp2_with (first
      | ((with_reducible refine gate_dst (N := 3) rfl ?_); refine box_event ?hg (N := 3) ?hd (cs := #[.slice A0 n0 c0, .slice Ai imps.length ci, .slice A2 n2 c2, .slice A3 n3 c3, .slice A4 n4 c4, .slice Ag gs.length cg, .slice A6 n6 c6, .int .i64 st, .slice A8 n8 c8, .slice A9 n9 c9, .slice A10 n10 c10]) (t := 69) ?hr ?_; (case hd => rfl); (case hg => rfl); (case hr => first | (go_simp; done) | (go_simp; rfl)); intro gm hggm w1 hA hb; have GM := Aside0.mk (show w.heap.size ≤ gm ∧ gm < w1.heap.size by rw [hggm]; exact ⟨Nat.le_refl _, hggm ▸ blk_lt hA⟩); have HB1 := Aside0.mk hb; have KM1 := Aside0.mk hA; clear hggm hA hb)
      | (go_at_call 64; (with_reducible refine (constant_yes HY.out (Kd.C_below HA.out HB1.out) HC.out).mono ?_); rintro e w2 ⟨rfl, hb⟩; have HB2 := Aside0.mk (below_step HB1.out hb); have KM2 := Aside0.mk (blk_below KM1.out hb); clear hb HB1 KM1)
      | ((with_reducible refine gate_dst (N := 7) rfl ?_); refine box_event ?hg (N := 7) ?hd (cs := #[.int .i64 0, .int .i64 0]) (t := 56) ?hr ?_; (case hd => rfl); (case hg => rfl); (case hr => first | (go_simp; done) | (go_simp; rfl)); intro g7 hgg7 w3 hA hb; have G7 := Aside0.mk (show w.heap.size ≤ g7 by rw [hgg7]; exact HB2.out.size); have HB3 := Aside0.mk (below_step HB2.out hb); have K7 := Aside0.mk hA; have KM3 := Aside0.mk (blk_below KM2.out hb); have NE := Aside0.mk (show gm ≠ g7 by rw [hgg7]; exact Nat.ne_of_lt (blk_lt KM2.out)); clear hgg7 hA hb HB2 KM2)
      | ((with_reducible refine gate_store (p := 7) rfl ?_); refine storeRow_event (g := g7) rfl rfl rfl (cs := #[.int .i64 (conT (hd is)), .int .i64 (hd is).f3]) rfl rfl K7.out (by kernel_rfl) rfl (by simp [Value.oneCell']) ?_; intro w4 hA hb ho hs; have HB4 := Aside0.mk (hb _ _ G7.out HB3.out); have x0 : w4.cell? ⟨g7, 0, none⟩ = some (.int .i64 (conT (hd is))) := blk_cell hA 0; have KM4 := Aside0.mk ((ho gm NE.out).trans KM3.out); clear hA hb ho hs K7 HB3 KM3))
    go_ret
    exact ⟨by rw [HR.out]; rfl, HB4.out⟩
set_option maxHeartbeats 8000000 in
set_option maxRecDepth 100000 in
theorem check_none {w : World} {imps : List S90} {gs : List S93} {is : List S106} {A : Option Addr} {c : Nat} (A0 Ai A2 A3 A4 Ag A6 A8 A9 A10 : Option Addr) (n0 n2 n3 n4 n6 n8 n9 n10 c0 ci c2 c3 c4 cg c6 c8 c9 c10 : Nat) (st : Int) {t : Int} (hlen : imps.length ≤ 140737488351232) (hgl : gs.length ≤ 140737488351232) (hI : k90.C w Ai imps.length imps) (hG : k93.C w Ag gs.length gs) (hA : k106.C w A is.length is) (hc : is.length ≤ c) (hn : ¬ isCon is) (hx : ¬ ((is.length = 1 ∧ mayE is = 0) ∧ (hd is).f0 = 35)) : Calls Try.prog 41 #[.agg #[.slice A0 n0 c0, .slice Ai imps.length ci, .slice A2 n2 c2, .slice A3 n3 c3, .slice A4 n4 c4, .slice Ag gs.length cg, .slice A6 n6 c6, .int .i64 st, .slice A8 n8 c8, .slice A9 n9 c9, .slice A10 n10 c10], .slice A is.length c, .int .i64 t] w fun e w' => e = .returned (.int .i64 (constE imps is t)) ∧ Below w.heap.size w w' := by
  have HA := Aside0.mk hA
  have HC := Aside0.mk hc
  have HN := Aside0.mk hn
  have HR := Aside0.mk (show constE imps is t = 2000 by unfold constE; rw [if_neg hn, if_neg (fun h => hx ⟨h.1, h.2.1⟩)])
  have HX := Aside0.mk hx
  have HE := Aside0.mk (show mayE is = mayE is from rfl)
  clear hA hc hn hI hG hlen hgl hx
  by_cases hl : is.length = 1
  · obtain ⟨ad, rfl, e0, e1, e3⟩ := hd_at (c := c) HA.out hl
    have dl : ((is.length : Int) != 1) = false := by rw [hl]; rfl
    have hpos : 0 < is.length := by omega
    have E0 := Aside0.mk e0
    clear e0 e1 e3
    by_cases he : mayE is = 0
    · have de : (mayE is != 0) = false := by rw [he]; rfl
      have d5 : ((hd is).f0 != 35) = true := by
        have h : ¬ (hd is).f0 = 35 := fun h => HX.out ⟨⟨hl, he⟩, h⟩
        simpa using h
      clear hl he
      go_enter Try.func41, Try.ntmps41
      go_wp2_with (first
        | ((with_reducible refine gate_dst (N := 3) rfl ?_); refine box_event ?hg (N := 3) ?hd (cs := #[.slice A0 n0 c0, .slice Ai imps.length ci, .slice A2 n2 c2, .slice A3 n3 c3, .slice A4 n4 c4, .slice Ag gs.length cg, .slice A6 n6 c6, .int .i64 st, .slice A8 n8 c8, .slice A9 n9 c9, .slice A10 n10 c10]) (t := 69) ?hr ?_; (case hd => rfl); (case hg => rfl); (case hr => first | (go_simp; done) | (go_simp; rfl)); intro gm hggm w1 hA hb; have GM := Aside0.mk (show w.heap.size ≤ gm ∧ gm < w1.heap.size by rw [hggm]; exact ⟨Nat.le_refl _, hggm ▸ blk_lt hA⟩); have HB1 := Aside0.mk hb; have KM1 := Aside0.mk hA; clear hggm hA hb)
        | (go_at_call 64; (with_reducible refine (constant_no HN.out (Kd.C_below HA.out HB1.out) HC.out).mono ?_); rintro e w2 ⟨rfl, hb⟩; have HB2 := Aside0.mk (below_step HB1.out hb); have KM2 := Aside0.mk (blk_below KM1.out hb); clear hb HB1 KM1)
        | ((with_reducible refine gate_dst (N := 7) rfl ?_); refine box_event ?hg (N := 7) ?hd (cs := #[.int .i64 0, .int .i64 0]) (t := 56) ?hr ?_; (case hd => rfl); (case hg => rfl); (case hr => first | (go_simp; done) | (go_simp; rfl)); intro g7 hgg7 w3 hA hb; have G7 := Aside0.mk (show w.heap.size ≤ g7 by rw [hgg7]; exact HB2.out.size); have HB3 := Aside0.mk (below_step HB2.out hb); have K7 := Aside0.mk hA; have KM3 := Aside0.mk (blk_below KM2.out hb); have NE := Aside0.mk (show gm ≠ g7 by rw [hgg7]; exact Nat.ne_of_lt (blk_lt KM2.out)); clear hgg7 hA hb HB2 KM2)
        | ((with_reducible refine gate_store (p := 7) rfl ?_); refine storeRow_event (g := g7) rfl rfl rfl (cs := #[.int .i64 0, .int .i64 0]) rfl rfl K7.out (by kernel_rfl) rfl (by simp [Value.oneCell']) ?_; intro w4 hA hb ho hs; have HB4 := Aside0.mk (hb _ _ G7.out HB3.out); have x0 : w4.cell? ⟨g7, 0, none⟩ = some (.int .i64 0) := blk_cell hA 0; have KM4 := Aside0.mk ((ho gm NE.out).trans KM3.out); clear hA hb ho hs K7 HB3 KM3)
        | (go_at_call 65; (with_reducible refine (may_calls _ is _ _ (Kd.C_below HA.out HB4.out) HC.out).mono ?_); rintro e w5 ⟨rfl, hb⟩; have HB5 := Aside0.mk (below_step HB4.out hb); have KM5 := Aside0.mk (blk_below KM4.out hb); have z0 := pw_cell_below HB5.out E0.out; clear hb HB4 KM4))
      go_ret
      exact ⟨by rw [HR.out]; rfl, HB5.out⟩
    · have de : (mayE is != 0) = true := by simpa using he
      clear hl he
      go_enter Try.func41, Try.ntmps41
      go_wp2_with (first
        | ((with_reducible refine gate_dst (N := 3) rfl ?_); refine box_event ?hg (N := 3) ?hd (cs := #[.slice A0 n0 c0, .slice Ai imps.length ci, .slice A2 n2 c2, .slice A3 n3 c3, .slice A4 n4 c4, .slice Ag gs.length cg, .slice A6 n6 c6, .int .i64 st, .slice A8 n8 c8, .slice A9 n9 c9, .slice A10 n10 c10]) (t := 69) ?hr ?_; (case hd => rfl); (case hg => rfl); (case hr => first | (go_simp; done) | (go_simp; rfl)); intro gm hggm w1 hA hb; have GM := Aside0.mk (show w.heap.size ≤ gm ∧ gm < w1.heap.size by rw [hggm]; exact ⟨Nat.le_refl _, hggm ▸ blk_lt hA⟩); have HB1 := Aside0.mk hb; have KM1 := Aside0.mk hA; clear hggm hA hb)
        | (go_at_call 64; (with_reducible refine (constant_no HN.out (Kd.C_below HA.out HB1.out) HC.out).mono ?_); rintro e w2 ⟨rfl, hb⟩; have HB2 := Aside0.mk (below_step HB1.out hb); have KM2 := Aside0.mk (blk_below KM1.out hb); clear hb HB1 KM1)
        | ((with_reducible refine gate_dst (N := 7) rfl ?_); refine box_event ?hg (N := 7) ?hd (cs := #[.int .i64 0, .int .i64 0]) (t := 56) ?hr ?_; (case hd => rfl); (case hg => rfl); (case hr => first | (go_simp; done) | (go_simp; rfl)); intro g7 hgg7 w3 hA hb; have G7 := Aside0.mk (show w.heap.size ≤ g7 by rw [hgg7]; exact HB2.out.size); have HB3 := Aside0.mk (below_step HB2.out hb); have K7 := Aside0.mk hA; have KM3 := Aside0.mk (blk_below KM2.out hb); have NE := Aside0.mk (show gm ≠ g7 by rw [hgg7]; exact Nat.ne_of_lt (blk_lt KM2.out)); clear hgg7 hA hb HB2 KM2)
        | ((with_reducible refine gate_store (p := 7) rfl ?_); refine storeRow_event (g := g7) rfl rfl rfl (cs := #[.int .i64 0, .int .i64 0]) rfl rfl K7.out (by kernel_rfl) rfl (by simp [Value.oneCell']) ?_; intro w4 hA hb ho hs; have HB4 := Aside0.mk (hb _ _ G7.out HB3.out); have x0 : w4.cell? ⟨g7, 0, none⟩ = some (.int .i64 0) := blk_cell hA 0; have KM4 := Aside0.mk ((ho gm NE.out).trans KM3.out); clear hA hb ho hs K7 HB3 KM3)
        | (go_at_call 65; (with_reducible refine (may_calls _ is _ _ (Kd.C_below HA.out HB4.out) HC.out).mono ?_); rintro e w5 ⟨rfl, hb⟩; have HB5 := Aside0.mk (below_step HB4.out hb); have KM5 := Aside0.mk (blk_below KM4.out hb); clear hb HB4 KM4))
      go_ret
      exact ⟨by rw [HR.out]; rfl, HB5.out⟩
  · have dl : ((is.length : Int) != 1) = true := by simp; omega
    clear hl
    go_enter Try.func41, Try.ntmps41
    go_wp2_with (first
      | ((with_reducible refine gate_dst (N := 3) rfl ?_); refine box_event ?hg (N := 3) ?hd (cs := #[.slice A0 n0 c0, .slice Ai imps.length ci, .slice A2 n2 c2, .slice A3 n3 c3, .slice A4 n4 c4, .slice Ag gs.length cg, .slice A6 n6 c6, .int .i64 st, .slice A8 n8 c8, .slice A9 n9 c9, .slice A10 n10 c10]) (t := 69) ?hr ?_; (case hd => rfl); (case hg => rfl); (case hr => first | (go_simp; done) | (go_simp; rfl)); intro gm hggm w1 hA hb; have GM := Aside0.mk (show w.heap.size ≤ gm ∧ gm < w1.heap.size by rw [hggm]; exact ⟨Nat.le_refl _, hggm ▸ blk_lt hA⟩); have HB1 := Aside0.mk hb; have KM1 := Aside0.mk hA; clear hggm hA hb)
      | (go_at_call 64; (with_reducible refine (constant_no HN.out (Kd.C_below HA.out HB1.out) HC.out).mono ?_); rintro e w2 ⟨rfl, hb⟩; have HB2 := Aside0.mk (below_step HB1.out hb); have KM2 := Aside0.mk (blk_below KM1.out hb); clear hb HB1 KM1)
      | ((with_reducible refine gate_dst (N := 7) rfl ?_); refine box_event ?hg (N := 7) ?hd (cs := #[.int .i64 0, .int .i64 0]) (t := 56) ?hr ?_; (case hd => rfl); (case hg => rfl); (case hr => first | (go_simp; done) | (go_simp; rfl)); intro g7 hgg7 w3 hA hb; have G7 := Aside0.mk (show w.heap.size ≤ g7 by rw [hgg7]; exact HB2.out.size); have HB3 := Aside0.mk (below_step HB2.out hb); have K7 := Aside0.mk hA; have KM3 := Aside0.mk (blk_below KM2.out hb); have NE := Aside0.mk (show gm ≠ g7 by rw [hgg7]; exact Nat.ne_of_lt (blk_lt KM2.out)); clear hgg7 hA hb HB2 KM2)
      | ((with_reducible refine gate_store (p := 7) rfl ?_); refine storeRow_event (g := g7) rfl rfl rfl (cs := #[.int .i64 0, .int .i64 0]) rfl rfl K7.out (by kernel_rfl) rfl (by simp [Value.oneCell']) ?_; intro w4 hA hb ho hs; have HB4 := Aside0.mk (hb _ _ G7.out HB3.out); have x0 : w4.cell? ⟨g7, 0, none⟩ = some (.int .i64 0) := blk_cell hA 0; have KM4 := Aside0.mk ((ho gm NE.out).trans KM3.out); clear hA hb ho hs K7 HB3 KM3))
    go_ret
    exact ⟨by rw [HR.out]; rfl, HB4.out⟩
theorem glob_out {imps : List S90} {gs : List S93} {a : Int} (h0 : 0 ≤ a) (h : a < (cnt imps 3 imps.length : Int)) : globalOf imps gs a = ((nth imps 3 a).f3, (nth imps 3 a).f4, 0) := by
  unfold globalOf
  rw [if_pos ⟨h0, h⟩]
set_option maxHeartbeats 16000000 in
set_option maxRecDepth 100000 in
theorem check_get {w : World} {imps : List S90} {gs : List S93} {is : List S106} {A : Option Addr} {c : Nat} (A0 Ai A2 A3 A4 Ag A6 A8 A9 A10 : Option Addr) (n0 n2 n3 n4 n6 n8 n9 n10 c0 ci c2 c3 c4 cg c6 c8 c9 c10 : Nat) (st : Int) {t : Int} (hlen : imps.length ≤ 140737488351232) (hgl : gs.length ≤ 140737488351232) (hI : k90.C w Ai imps.length imps) (hG : k93.C w Ag gs.length gs) (hA : k106.C w A is.length is) (hc : is.length ≤ c) (hn : ¬ isCon is) (hl : is.length = 1) (he : mayE is = 0) (h35 : (hd is).f0 = 35) : Calls Try.prog 41 #[.agg #[.slice A0 n0 c0, .slice Ai imps.length ci, .slice A2 n2 c2, .slice A3 n3 c3, .slice A4 n4 c4, .slice Ag gs.length cg, .slice A6 n6 c6, .int .i64 st, .slice A8 n8 c8, .slice A9 n9 c9, .slice A10 n10 c10], .slice A is.length c, .int .i64 t] w fun e w' => e = .returned (.int .i64 (constE imps is t)) ∧ Below w.heap.size w w' := by
  have hmb := may_get (may_hd hl he) h35
  have hr : ∀ r, (if (hd is).f1 < (cnt imps 3 imps.length : Int) ∧ (nth imps 3 (hd is).f1).f4 = false then (if (nth imps 3 (hd is).f1).f3 = t then 0 else 2001) else 2000 : Int) = r → constE imps is t = r := fun r hr => by
    unfold constE
    rw [if_neg hn, ← hr]
    by_cases h : (hd is).f1 < (cnt imps 3 imps.length : Int) ∧ (nth imps 3 (hd is).f1).f4 = false
    · rw [if_pos h, if_pos ⟨⟨hl, he⟩, h35, h⟩]
    · rw [if_neg h, if_neg (fun h' => h h'.2.2)]
  obtain ⟨ad, rfl, e0, e1, e3⟩ := hd_at (c := c) hA hl
  have HA := Aside0.mk hA
  have HC := Aside0.mk hc
  have HN := Aside0.mk hn
  have HI := Aside0.mk hI
  have HG := Aside0.mk hG
  have HLI := Aside0.mk hlen
  have HLG := Aside0.mk hgl
  have HE := Aside0.mk he
  have dl : ((is.length : Int) != 1) = false := by rw [hl]; rfl
  have hpos : 0 < is.length := by omega
  have d5 : ((hd is).f0 != 35) = false := by rw [h35]; rfl
  have HR := Aside0.mk hr
  clear hr hA hc hn hI hG hlen hgl hl he h35 e3
  generalize hd is = x at *
  have HF1 := Aside0.mk (show 0 ≤ x.f1 ∧ x.f1 < 9223372036854775808 by omega)
  have E0 := Aside0.mk e0
  have E1 := Aside0.mk e1
  clear hmb e0 e1
  go_enter Try.func41, Try.ntmps41
  go_wp2_with (first
    | ((with_reducible refine gate_dst (N := 3) rfl ?_); refine box_event ?hg (N := 3) ?hd (cs := #[.slice A0 n0 c0, .slice Ai imps.length ci, .slice A2 n2 c2, .slice A3 n3 c3, .slice A4 n4 c4, .slice Ag gs.length cg, .slice A6 n6 c6, .int .i64 st, .slice A8 n8 c8, .slice A9 n9 c9, .slice A10 n10 c10]) (t := 69) ?hr ?_; (case hd => rfl); (case hg => rfl); (case hr => first | (go_simp; done) | (go_simp; rfl)); intro gm hggm w1 hA hb; have GM := Aside0.mk (show w.heap.size ≤ gm ∧ gm < w1.heap.size by rw [hggm]; exact ⟨Nat.le_refl _, hggm ▸ blk_lt hA⟩); have HB1 := Aside0.mk hb; have KM1 := Aside0.mk hA; clear hggm hA hb)
    | (go_at_call 64; (with_reducible refine (constant_no HN.out (Kd.C_below HA.out HB1.out) HC.out).mono ?_); rintro e w2 ⟨rfl, hb⟩; have HB2 := Aside0.mk (below_step HB1.out hb); have KM2 := Aside0.mk (blk_below KM1.out hb); clear hb HB1 KM1)
    | ((with_reducible refine gate_dst (N := 7) rfl ?_); refine box_event ?hg (N := 7) ?hd (cs := #[.int .i64 0, .int .i64 0]) (t := 56) ?hr ?_; (case hd => rfl); (case hg => rfl); (case hr => first | (go_simp; done) | (go_simp; rfl)); intro g7 hgg7 w3 hA hb; have G7 := Aside0.mk (show w.heap.size ≤ g7 by rw [hgg7]; exact HB2.out.size); have HB3 := Aside0.mk (below_step HB2.out hb); have K7 := Aside0.mk hA; have KM3 := Aside0.mk (blk_below KM2.out hb); have NE := Aside0.mk (show gm ≠ g7 by rw [hgg7]; exact Nat.ne_of_lt (blk_lt KM2.out)); clear hgg7 hA hb HB2 KM2)
    | ((with_reducible refine gate_store (p := 7) rfl ?_); refine storeRow_event (g := g7) rfl rfl rfl (cs := #[.int .i64 0, .int .i64 0]) rfl rfl K7.out (by kernel_rfl) rfl (by simp [Value.oneCell']) ?_; intro w4 hA hb ho hs; have HB4 := Aside0.mk (hb _ _ G7.out HB3.out); have x0 : w4.cell? ⟨g7, 0, none⟩ = some (.int .i64 0) := blk_cell hA 0; have KM4 := Aside0.mk ((ho gm NE.out).trans KM3.out); clear hA hb ho hs K7 HB3 KM3)
    | (go_at_call 65; (with_reducible refine (may_k HE.out (Kd.C_below HA.out HB4.out) HC.out).mono ?_); rintro e w5 ⟨rfl, hb⟩; have HB5 := Aside0.mk (below_step HB4.out hb); have KM5 := Aside0.mk (blk_below KM4.out hb); have z0 := pw_cell_below HB5.out E0.out; have z1 := pw_cell_below HB5.out E1.out; have hKM := KM5.out; have q0 : w5.cell? ⟨gm, 0, none⟩ = some (.slice A0 n0 c0) := blk_cell hKM 0; have q1 : w5.cell? ⟨gm, 1, none⟩ = some (.slice Ai imps.length ci) := blk_cell hKM 1; have q2 : w5.cell? ⟨gm, 2, none⟩ = some (.slice A2 n2 c2) := blk_cell hKM 2; have q3 : w5.cell? ⟨gm, 3, none⟩ = some (.slice A3 n3 c3) := blk_cell hKM 3; have q4 : w5.cell? ⟨gm, 4, none⟩ = some (.slice A4 n4 c4) := blk_cell hKM 4; have q5 : w5.cell? ⟨gm, 5, none⟩ = some (.slice Ag gs.length cg) := blk_cell hKM 5; have q6 : w5.cell? ⟨gm, 6, none⟩ = some (.slice A6 n6 c6) := blk_cell hKM 6; have q7 : w5.cell? ⟨gm, 7, none⟩ = some (.int .i64 st) := blk_cell hKM 7; have q8 : w5.cell? ⟨gm, 8, none⟩ = some (.slice A8 n8 c8) := blk_cell hKM 8; have q9 : w5.cell? ⟨gm, 9, none⟩ = some (.slice A9 n9 c9) := blk_cell hKM 9; have q10 : w5.cell? ⟨gm, 10, none⟩ = some (.slice A10 n10 c10) := blk_cell hKM 10; clear hKM; clear hb HB4 KM4))
  refine start_ (n := 13) (S := fun w' => w'.cell? ⟨gm, 0, none⟩ = some (.slice A0 n0 c0) ∧ w'.cell? ⟨gm, 1, none⟩ = some (.slice Ai imps.length ci) ∧ w'.cell? ⟨gm, 2, none⟩ = some (.slice A2 n2 c2) ∧ w'.cell? ⟨gm, 3, none⟩ = some (.slice A3 n3 c3) ∧ w'.cell? ⟨gm, 4, none⟩ = some (.slice A4 n4 c4) ∧ w'.cell? ⟨gm, 5, none⟩ = some (.slice Ag gs.length cg) ∧ w'.cell? ⟨gm, 6, none⟩ = some (.slice A6 n6 c6) ∧ w'.cell? ⟨gm, 7, none⟩ = some (.int .i64 st) ∧ w'.cell? ⟨gm, 8, none⟩ = some (.slice A8 n8 c8) ∧ w'.cell? ⟨gm, 9, none⟩ = some (.slice A9 n9 c9) ∧ w'.cell? ⟨gm, 10, none⟩ = some (.slice A10 n10 c10) ∧ w'.cell? ⟨ad.block, ad.off + 1, none⟩ = some (.int .i64 x.f1)) (ds := []) #[false, false, false, false, false, false, false, false, false, false, false, false, false] (by kernel_rfl) rfl rfl ⟨q0, q1, q2, q3, q4, q5, q6, q7, q8, q9, q10, z1⟩ (fun hHeld => ?_)
  refine pure_ (i := 1) (N := some 39) (v := ?_) (a' := ?_) #[false, true, false, false, false, false, false, false, false, false, false, false, false] rfl rfl (by kernel_rfl) (fun _ _ _ h => h) (Or.inl ⟨by rfl, ?_⟩) ?_ ?_
  rotate_left
  · intro w'
    go_simp
    with_reducible rfl
  rotate_left
  · simp only [Act.put, List.setIfInBounds_toArray, List.set_cons_zero, List.set_cons_succ, i64_w, i32_w]
    rfl
  refine pure_ (i := 2) (N := some 40) (v := ?_) (a' := ?_) #[false, true, true, false, false, false, false, false, false, false, false, false, false] rfl rfl (by kernel_rfl) (fun _ _ _ h => h) (Or.inl ⟨by rfl, ?_⟩) ?_ ?_
  rotate_left
  · intro w'
    go_simp
    with_reducible rfl
  rotate_left
  · simp only [Act.put, List.setIfInBounds_toArray, List.set_cons_zero, List.set_cons_succ, i64_w, i32_w]
    rfl
  refine pure_ (i := 3) (N := some 41) (v := ?_) (a' := ?_) #[false, true, true, true, false, false, false, false, false, false, false, false, false] rfl rfl (by kernel_rfl) (fun _ _ _ h => h) (Or.inl ⟨by rfl, ?_⟩) ?_ ?_
  rotate_left
  · intro w'
    go_simp
    with_reducible rfl
  rotate_left
  · simp only [Act.put, List.setIfInBounds_toArray, List.set_cons_zero, List.set_cons_succ, i64_w, i32_w]
    rfl
  refine take_ (i := 0) (N := some 38) (v := ?_) (a' := ?_) #[true, true, true, true, false, false, false, false, false, false, false, false, false] rfl rfl (by kernel_rfl) (fun _ _ _ h => h) (Or.inl ⟨by rfl, ?_⟩) hHeld ?_ ?_
  rotate_left
  · rintro w' ⟨s0, s1, s2, s3, s4, s5, s6, s7, s8, s9, s10, s11⟩
    go_simp
    with_reducible rfl
  rotate_left
  · simp only [Act.put, List.setIfInBounds_toArray, List.set_cons_zero, List.set_cons_succ, i64_w, i32_w]
    rfl
  refine take_ (i := 4) (N := some 42) (v := ?_) (a' := ?_) #[true, true, true, true, true, false, false, false, false, false, false, false, false] rfl rfl (by kernel_rfl) (fun _ _ _ h => h) (Or.inl ⟨by rfl, ?_⟩) hHeld ?_ ?_
  rotate_left
  · rintro w' ⟨s0, s1, s2, s3, s4, s5, s6, s7, s8, s9, s10, s11⟩
    go_simp
    with_reducible rfl
  rotate_left
  · simp only [Act.put, List.setIfInBounds_toArray, List.set_cons_zero, List.set_cons_succ, i64_w, i32_w]
    rfl
  refine one_ (i := 5) (N := some 43) #[true, true, true, true, true, true, false, false, false, false, false, false, false] rfl rfl (by kernel_rfl) (by decide) (fun K hK => ?_)
  refine goes_ Try.func28 (by kernel_rfl) rfl #[.agg #[.slice A0 n0 c0, .slice Ai imps.length ci, .slice A2 n2 c2, .slice A3 n3 c3, .slice A4 n4 c4, .slice Ag gs.length cg, .slice A6 n6 c6, .int .i64 st, .slice A8 n8 c8, .slice A9 n9 c9, .slice A10 n10 c10], .int .i64 x.f1] (by rfl) rfl rfl (by simp only [List.map_toArray, List.map_cons, List.map_nil]; rfl) ?_
  with_reducible refine (global_calls _ imps gs x.f1 A0 Ai A2 A3 A4 Ag A6 A8 A9 A10 n0 n2 n3 n4 n6 n8 n9 n10 c0 ci c2 c3 c4 cg c6 c8 c9 c10 st HLI.out HLG.out HF1.out.2 (Kd.C_below HI.out (below_drew HB5.out)) (Kd.C_below HG.out (below_drew HB5.out))).mono ?_
  rintro e w6 ⟨rfl, hb⟩
  refine ⟨_, rfl, ?_⟩
  have HBY : Aside0 (Below w5.heap.size w5 w6) := ⟨below_step (below_drew (Below.refl _ _)) hb⟩
  clear hb
  refine hK.out _ _ ⟨pw_cell_below HBY.out q0, pw_cell_below HBY.out q1, pw_cell_below HBY.out q2, pw_cell_below HBY.out q3, pw_cell_below HBY.out q4, pw_cell_below HBY.out q5, pw_cell_below HBY.out q6, pw_cell_below HBY.out q7, pw_cell_below HBY.out q8, pw_cell_below HBY.out q9, pw_cell_below HBY.out q10, pw_cell_below HBY.out z1⟩ (fun hHeld => ?_)
  clear hK K
  refine norm_ (a' := ?_) ?_ ?_
  rotate_left
  · show Act.put _ (some 43) _ = _
    simp only [Act.put, List.setIfInBounds_toArray, List.set_cons_zero, List.set_cons_succ, i64_w, i32_w]
    rfl
  refine pure_ (i := 6) (N := some 37) (v := ?_) (a' := ?_) #[true, true, true, true, true, true, true, false, false, false, false, false, false] rfl rfl (by kernel_rfl) (fun _ _ _ h => h) (Or.inl ⟨by rfl, ?_⟩) ?_ ?_
  rotate_left
  · intro w'
    go_simp
    with_reducible rfl
  rotate_left
  · simp only [Act.put, List.setIfInBounds_toArray, List.set_cons_zero, List.set_cons_succ, i64_w, i32_w]
    rfl
  refine pure_ (i := 7) (N := some 44) (v := ?_) (a' := ?_) #[true, true, true, true, true, true, true, true, false, false, false, false, false] rfl rfl (by kernel_rfl) (fun _ _ _ h => h) (Or.inl ⟨by rfl, ?_⟩) ?_ ?_
  rotate_left
  · intro w'
    go_simp
    with_reducible rfl
  rotate_left
  · simp only [Act.put, List.setIfInBounds_toArray, List.set_cons_zero, List.set_cons_succ, i64_w, i32_w]
    rfl
  refine pure_ (i := 8) (N := some 45) (v := ?_) (a' := ?_) #[true, true, true, true, true, true, true, true, true, false, false, false, false] rfl rfl (by kernel_rfl) (fun _ _ _ h => h) (Or.inl ⟨by rfl, ?_⟩) ?_ ?_
  rotate_left
  · intro w'
    go_simp
    with_reducible rfl
  rotate_left
  · simp only [Act.put, List.setIfInBounds_toArray, List.set_cons_zero, List.set_cons_succ, i64_w, i32_w]
    rfl
  refine pure_ (i := 9) (N := some 46) (v := ?_) (a' := ?_) #[true, true, true, true, true, true, true, true, true, true, false, false, false] rfl rfl (by kernel_rfl) (fun _ _ _ h => h) (Or.inl ⟨by rfl, ?_⟩) ?_ ?_
  rotate_left
  · intro w'
    go_simp
    with_reducible rfl
  rotate_left
  · simp only [Act.put, List.setIfInBounds_toArray, List.set_cons_zero, List.set_cons_succ, i64_w, i32_w]
    rfl
  refine pure_ (i := 10) (N := some 10) (v := ?_) (a' := ?_) #[true, true, true, true, true, true, true, true, true, true, true, false, false] rfl rfl (by kernel_rfl) (fun _ _ _ h => h) (Or.inl ⟨by rfl, ?_⟩) ?_ ?_
  rotate_left
  · intro w'
    go_simp
    with_reducible rfl
  rotate_left
  · simp only [Act.put, List.setIfInBounds_toArray, List.set_cons_zero, List.set_cons_succ, i64_w, i32_w]
    rfl
  refine pure_ (i := 11) (N := some 11) (v := ?_) (a' := ?_) #[true, true, true, true, true, true, true, true, true, true, true, true, false] rfl rfl (by kernel_rfl) (fun _ _ _ h => h) (Or.inl ⟨by rfl, ?_⟩) ?_ ?_
  rotate_left
  · intro w'
    go_simp
    with_reducible rfl
  rotate_left
  · simp only [Act.put, List.setIfInBounds_toArray, List.set_cons_zero, List.set_cons_succ, i64_w, i32_w]
    rfl
  refine pure_ (i := 12) (N := some 12) (v := ?_) (a' := ?_) #[true, true, true, true, true, true, true, true, true, true, true, true, true] rfl rfl (by kernel_rfl) (fun _ _ _ h => h) (Or.inl ⟨by rfl, ?_⟩) ?_ ?_
  rotate_left
  · intro w'
    go_simp
    with_reducible rfl
  rotate_left
  · simp only [Act.put, List.setIfInBounds_toArray, List.set_cons_zero, List.set_cons_succ, i64_w, i32_w]
    rfl
  refine done_ (by kernel_rfl) ?_
  have HB6 := Aside0.mk (below_step HB5.out HBY.out)
  have KM6 := Aside0.mk (blk_below KM5.out HBY.out)
  have q1' := pw_cell_below HBY.out q1
  have z1' := pw_cell_below HBY.out z1
  clear q0 q1 q2 q3 q4 q5 q6 q7 q8 q9 q10 z1
  have q1 := q1'
  have z1 := z1'
  clear q1' z1'
  have HL := Aside0.mk (cnt_le imps 3 imps.length)
  by_cases hN : x.f1 < (cnt imps 3 imps.length : Int)
  · have HN1 := Aside0.mk hN
    rw [glob_out (gs := gs) HF1.out.1 hN]
    have dE : ((0 : Int) != 0) = false := by decide
    cases hM : (nth imps 3 x.f1).f4 with
    | true =>
      go_wp2
      refine start_ (n := 13) (S := fun w' => w'.cell? ⟨ad.block, ad.off + 1, none⟩ = some (.int .i64 x.f1)) (ds := []) #[false, false, false, false, false, false, false, false, false, false, false, false, false] (by kernel_rfl) rfl rfl (z1) (fun hHeld => ?_)
      refine pure_ (i := 0) (N := some 47) (v := ?_) (a' := ?_) #[true, false, false, false, false, false, false, false, false, false, false, false, false] rfl rfl (by kernel_rfl) (fun _ _ _ h => h) (Or.inl ⟨by rfl, ?_⟩) ?_ ?_
      rotate_left
      · intro w'
        go_simp
        with_reducible rfl
      rotate_left
      · simp only [Act.put, List.setIfInBounds_toArray, List.set_cons_zero, List.set_cons_succ, i64_w, i32_w]
        rfl
      refine pure_ (i := 1) (N := some 48) (v := ?_) (a' := ?_) #[true, true, false, false, false, false, false, false, false, false, false, false, false] rfl rfl (by kernel_rfl) (fun _ _ _ h => h) (Or.inl ⟨by rfl, ?_⟩) ?_ ?_
      rotate_left
      · intro w'
        go_simp
        with_reducible rfl
      rotate_left
      · simp only [Act.put, List.setIfInBounds_toArray, List.set_cons_zero, List.set_cons_succ, i64_w, i32_w]
        rfl
      refine pure_ (i := 2) (N := some 49) (v := ?_) (a' := ?_) #[true, true, true, false, false, false, false, false, false, false, false, false, false] rfl rfl (by kernel_rfl) (fun _ _ _ h => h) (Or.inl ⟨by rfl, ?_⟩) ?_ ?_
      rotate_left
      · intro w'
        go_simp
        with_reducible rfl
      rotate_left
      · simp only [Act.put, List.setIfInBounds_toArray, List.set_cons_zero, List.set_cons_succ, i64_w, i32_w]
        rfl
      refine pure_ (i := 3) (N := some 50) (v := ?_) (a' := ?_) #[true, true, true, true, false, false, false, false, false, false, false, false, false] rfl rfl (by kernel_rfl) (fun _ _ _ h => h) (Or.inl ⟨by rfl, ?_⟩) ?_ ?_
      rotate_left
      · intro w'
        go_simp
        with_reducible rfl
      rotate_left
      · simp only [Act.put, List.setIfInBounds_toArray, List.set_cons_zero, List.set_cons_succ, i64_w, i32_w]
        rfl
      refine pure_ (i := 4) (N := some 51) (v := ?_) (a' := ?_) #[true, true, true, true, true, false, false, false, false, false, false, false, false] rfl rfl (by kernel_rfl) (fun _ _ _ h => h) (Or.inl ⟨by rfl, ?_⟩) ?_ ?_
      rotate_left
      · intro w'
        go_simp
        with_reducible rfl
      rotate_left
      · simp only [Act.put, List.setIfInBounds_toArray, List.set_cons_zero, List.set_cons_succ, i64_w, i32_w]
        rfl
      refine pure_ (i := 5) (N := some 52) (v := ?_) (a' := ?_) #[true, true, true, true, true, true, false, false, false, false, false, false, false] rfl rfl (by kernel_rfl) (fun _ _ _ h => h) (Or.inl ⟨by rfl, ?_⟩) ?_ ?_
      rotate_left
      · intro w'
        go_simp
        with_reducible rfl
      rotate_left
      · simp only [Act.put, List.setIfInBounds_toArray, List.set_cons_zero, List.set_cons_succ, i64_w, i32_w]
        rfl
      refine pure_ (i := 6) (N := some 53) (v := undef) (a' := ?_) #[true, true, true, true, true, true, true, false, false, false, false, false, false] rfl rfl (by kernel_rfl) (fun _ _ _ h => h) (Or.inr ⟨by rfl, rfl⟩) ?_ ?_
      rotate_left
      · simp only [Act.put, List.setIfInBounds_toArray, List.set_cons_zero, List.set_cons_succ, i64_w, i32_w]
        rfl
      refine pure_ (i := 7) (N := some 54) (v := undef) (a' := ?_) #[true, true, true, true, true, true, true, true, false, false, false, false, false] rfl rfl (by kernel_rfl) (fun _ _ _ h => h) (Or.inr ⟨by rfl, rfl⟩) ?_ ?_
      rotate_left
      · simp only [Act.put, List.setIfInBounds_toArray, List.set_cons_zero, List.set_cons_succ, i64_w, i32_w]
        rfl
      refine pure_ (i := 8) (N := some 55) (v := undef) (a' := ?_) #[true, true, true, true, true, true, true, true, true, false, false, false, false] rfl rfl (by kernel_rfl) (fun _ _ _ h => h) (Or.inr ⟨by rfl, rfl⟩) ?_ ?_
      rotate_left
      · simp only [Act.put, List.setIfInBounds_toArray, List.set_cons_zero, List.set_cons_succ, i64_w, i32_w]
        rfl
      refine pure_ (i := 9) (N := some 56) (v := undef) (a' := ?_) #[true, true, true, true, true, true, true, true, true, true, false, false, false] rfl rfl (by kernel_rfl) (fun _ _ _ h => h) (Or.inr ⟨by rfl, rfl⟩) ?_ ?_
      rotate_left
      · simp only [Act.put, List.setIfInBounds_toArray, List.set_cons_zero, List.set_cons_succ, i64_w, i32_w]
        rfl
      refine pure_ (i := 10) (N := some 57) (v := undef) (a' := ?_) #[true, true, true, true, true, true, true, true, true, true, true, false, false] rfl rfl (by kernel_rfl) (fun _ _ _ h => h) (Or.inr ⟨by rfl, rfl⟩) ?_ ?_
      rotate_left
      · simp only [Act.put, List.setIfInBounds_toArray, List.set_cons_zero, List.set_cons_succ, i64_w, i32_w]
        rfl
      refine pure_ (i := 11) (N := some 58) (v := undef) (a' := ?_) #[true, true, true, true, true, true, true, true, true, true, true, true, false] rfl rfl (by kernel_rfl) (fun _ _ _ h => h) (Or.inr ⟨by rfl, rfl⟩) ?_ ?_
      rotate_left
      · simp only [Act.put, List.setIfInBounds_toArray, List.set_cons_zero, List.set_cons_succ, i64_w, i32_w]
        rfl
      refine pure_ (i := 12) (N := some 59) (v := ?_) (a' := ?_) #[true, true, true, true, true, true, true, true, true, true, true, true, true] rfl rfl (by kernel_rfl) (fun _ _ _ h => h) (Or.inl ⟨by rfl, ?_⟩) ?_ ?_
      rotate_left
      · intro w'
        go_simp
        with_reducible rfl
      rotate_left
      · simp only [Act.put, List.setIfInBounds_toArray, List.set_cons_zero, List.set_cons_succ, i64_w, i32_w]
        rfl
      refine done_ (by kernel_rfl) ?_
      go_wp2
      go_ret
      exact ⟨by rw [HR.out 2000 (by rw [if_neg (by rw [hM]; simp)])]; rfl, HB6.out.drew⟩
    | false =>
      have dN : decide ((cnt imps 3 imps.length : Int) ≤ x.f1) = false := decide_eq_false (by omega)
      cases dt : ((nth imps 3 x.f1).f3 != t) with
      | true =>
        go_wp2
        refine start_ (n := 13) (S := fun w' => w'.cell? ⟨ad.block, ad.off + 1, none⟩ = some (.int .i64 x.f1)) (ds := []) #[false, false, false, false, false, false, false, false, false, false, false, false, false] (by kernel_rfl) rfl rfl (z1) (fun hHeld => ?_)
        refine pure_ (i := 0) (N := some 47) (v := ?_) (a' := ?_) #[true, false, false, false, false, false, false, false, false, false, false, false, false] rfl rfl (by kernel_rfl) (fun _ _ _ h => h) (Or.inl ⟨by rfl, ?_⟩) ?_ ?_
        rotate_left
        · intro w'
          go_simp
          with_reducible rfl
        rotate_left
        · simp only [Act.put, List.setIfInBounds_toArray, List.set_cons_zero, List.set_cons_succ, i64_w, i32_w]
          rfl
        refine pure_ (i := 1) (N := some 48) (v := ?_) (a' := ?_) #[true, true, false, false, false, false, false, false, false, false, false, false, false] rfl rfl (by kernel_rfl) (fun _ _ _ h => h) (Or.inl ⟨by rfl, ?_⟩) ?_ ?_
        rotate_left
        · intro w'
          go_simp
          with_reducible rfl
        rotate_left
        · simp only [Act.put, List.setIfInBounds_toArray, List.set_cons_zero, List.set_cons_succ, i64_w, i32_w]
          rfl
        refine pure_ (i := 2) (N := some 49) (v := ?_) (a' := ?_) #[true, true, true, false, false, false, false, false, false, false, false, false, false] rfl rfl (by kernel_rfl) (fun _ _ _ h => h) (Or.inl ⟨by rfl, ?_⟩) ?_ ?_
        rotate_left
        · intro w'
          go_simp
          with_reducible rfl
        rotate_left
        · simp only [Act.put, List.setIfInBounds_toArray, List.set_cons_zero, List.set_cons_succ, i64_w, i32_w]
          rfl
        refine pure_ (i := 3) (N := some 50) (v := ?_) (a' := ?_) #[true, true, true, true, false, false, false, false, false, false, false, false, false] rfl rfl (by kernel_rfl) (fun _ _ _ h => h) (Or.inl ⟨by rfl, ?_⟩) ?_ ?_
        rotate_left
        · intro w'
          go_simp
          with_reducible rfl
        rotate_left
        · simp only [Act.put, List.setIfInBounds_toArray, List.set_cons_zero, List.set_cons_succ, i64_w, i32_w]
          rfl
        refine pure_ (i := 4) (N := some 51) (v := ?_) (a' := ?_) #[true, true, true, true, true, false, false, false, false, false, false, false, false] rfl rfl (by kernel_rfl) (fun _ _ _ h => h) (Or.inl ⟨by rfl, ?_⟩) ?_ ?_
        rotate_left
        · intro w'
          go_simp
          with_reducible rfl
        rotate_left
        · simp only [Act.put, List.setIfInBounds_toArray, List.set_cons_zero, List.set_cons_succ, i64_w, i32_w]
          rfl
        refine pure_ (i := 5) (N := some 52) (v := ?_) (a' := ?_) #[true, true, true, true, true, true, false, false, false, false, false, false, false] rfl rfl (by kernel_rfl) (fun _ _ _ h => h) (Or.inl ⟨by rfl, ?_⟩) ?_ ?_
        rotate_left
        · intro w'
          go_simp
          with_reducible rfl
        rotate_left
        · simp only [Act.put, List.setIfInBounds_toArray, List.set_cons_zero, List.set_cons_succ, i64_w, i32_w]
          rfl
        refine pure_ (i := 6) (N := some 53) (v := ?_) (a' := ?_) #[true, true, true, true, true, true, true, false, false, false, false, false, false] rfl rfl (by kernel_rfl) (fun _ _ _ h => h) (Or.inl ⟨by rfl, ?_⟩) ?_ ?_
        rotate_left
        · intro w'
          go_simp
          with_reducible rfl
        rotate_left
        · simp only [Act.put, List.setIfInBounds_toArray, List.set_cons_zero, List.set_cons_succ, i64_w, i32_w]
          rfl
        refine pure_ (i := 7) (N := some 54) (v := ?_) (a' := ?_) #[true, true, true, true, true, true, true, true, false, false, false, false, false] rfl rfl (by kernel_rfl) (fun _ _ _ h => h) (Or.inl ⟨by rfl, ?_⟩) ?_ ?_
        rotate_left
        · intro w'
          go_simp
          with_reducible rfl
        rotate_left
        · simp only [Act.put, List.setIfInBounds_toArray, List.set_cons_zero, List.set_cons_succ, i64_w, i32_w]
          rfl
        refine pure_ (i := 8) (N := some 55) (v := ?_) (a' := ?_) #[true, true, true, true, true, true, true, true, true, false, false, false, false] rfl rfl (by kernel_rfl) (fun _ _ _ h => h) (Or.inl ⟨by rfl, ?_⟩) ?_ ?_
        rotate_left
        · intro w'
          go_simp
          with_reducible rfl
        rotate_left
        · simp only [Act.put, List.setIfInBounds_toArray, List.set_cons_zero, List.set_cons_succ, i64_w, i32_w]
          rfl
        refine take_ (i := 9) (N := some 56) (v := ?_) (a' := ?_) #[true, true, true, true, true, true, true, true, true, true, false, false, false] rfl rfl (by kernel_rfl) (fun _ _ _ h => h) (Or.inl ⟨by rfl, ?_⟩) hHeld ?_ ?_
        rotate_left
        · intro w' s0
          go_simp
          with_reducible rfl
        rotate_left
        · simp only [Act.put, List.setIfInBounds_toArray, List.set_cons_zero, List.set_cons_succ, i64_w, i32_w]
          rfl
        refine one_ (i := 10) (N := some 57) #[true, true, true, true, true, true, true, true, true, true, true, false, false] rfl rfl (by kernel_rfl) (by decide) (fun K hK => ?_)
        refine goes_ Try.func55 (by kernel_rfl) rfl #[.pointer (some ⟨gm, 0, none⟩), .int .i64 3] (by rfl) rfl rfl (by simp only [List.map_toArray, List.map_cons, List.map_nil]; rfl) ?_
        with_reducible refine (many_calls _ gm imps 3 Ai ci HLI.out (by have := GM.out.2; have := HB6.out.size; have := blk_lt KM6.out; simpa using this) (pw_cell_below (below_drew (Below.refl _ _)) q1) (Kd.C_below HI.out (below_drew HB6.out))).mono ?_
        rintro e w7 ⟨rfl, hb⟩
        refine ⟨_, rfl, ?_⟩
        have HBY7 : Aside0 (Below w6.heap.size w6 w7) := ⟨below_step (below_drew (Below.refl _ _)) hb⟩
        clear hb
        refine hK.out _ _ (pw_cell_below HBY7.out z1) (fun hHeld => ?_)
        clear hK K
        refine norm_ (a' := ?_) ?_ ?_
        rotate_left
        · show Act.put _ (some 57) _ = _
          simp only [Act.put, List.setIfInBounds_toArray, List.set_cons_zero, List.set_cons_succ, i64_w, i32_w]
          rfl
        refine pure_ (i := 11) (N := some 58) (v := ?_) (a' := ?_) #[true, true, true, true, true, true, true, true, true, true, true, true, false] rfl rfl (by kernel_rfl) (fun _ _ _ h => h) (Or.inl ⟨by rfl, ?_⟩) ?_ ?_
        rotate_left
        · intro w'
          go_simp
          with_reducible rfl
        rotate_left
        · simp only [Act.put, List.setIfInBounds_toArray, List.set_cons_zero, List.set_cons_succ, i64_w, i32_w]
          rfl
        refine pure_ (i := 12) (N := some 59) (v := ?_) (a' := ?_) #[true, true, true, true, true, true, true, true, true, true, true, true, true] rfl rfl (by kernel_rfl) (fun _ _ _ h => h) (Or.inl ⟨by rfl, ?_⟩) ?_ ?_
        rotate_left
        · intro w'
          go_simp
          with_reducible rfl
        rotate_left
        · simp only [Act.put, List.setIfInBounds_toArray, List.set_cons_zero, List.set_cons_succ, i64_w, i32_w]
          rfl
        refine done_ (by kernel_rfl) ?_
        go_wp2
        go_ret
        exact ⟨by rw [HR.out 2001 (by rw [if_pos ⟨HN1.out, hM⟩, if_neg (by simpa using dt)])]; rfl, below_step HB6.out HBY7.out⟩
      | false =>
        go_wp2
        refine start_ (n := 13) (S := fun w' => w'.cell? ⟨ad.block, ad.off + 1, none⟩ = some (.int .i64 x.f1)) (ds := []) #[false, false, false, false, false, false, false, false, false, false, false, false, false] (by kernel_rfl) rfl rfl (z1) (fun hHeld => ?_)
        refine pure_ (i := 0) (N := some 47) (v := ?_) (a' := ?_) #[true, false, false, false, false, false, false, false, false, false, false, false, false] rfl rfl (by kernel_rfl) (fun _ _ _ h => h) (Or.inl ⟨by rfl, ?_⟩) ?_ ?_
        rotate_left
        · intro w'
          go_simp
          with_reducible rfl
        rotate_left
        · simp only [Act.put, List.setIfInBounds_toArray, List.set_cons_zero, List.set_cons_succ, i64_w, i32_w]
          rfl
        refine pure_ (i := 1) (N := some 48) (v := ?_) (a' := ?_) #[true, true, false, false, false, false, false, false, false, false, false, false, false] rfl rfl (by kernel_rfl) (fun _ _ _ h => h) (Or.inl ⟨by rfl, ?_⟩) ?_ ?_
        rotate_left
        · intro w'
          go_simp
          with_reducible rfl
        rotate_left
        · simp only [Act.put, List.setIfInBounds_toArray, List.set_cons_zero, List.set_cons_succ, i64_w, i32_w]
          rfl
        refine pure_ (i := 2) (N := some 49) (v := ?_) (a' := ?_) #[true, true, true, false, false, false, false, false, false, false, false, false, false] rfl rfl (by kernel_rfl) (fun _ _ _ h => h) (Or.inl ⟨by rfl, ?_⟩) ?_ ?_
        rotate_left
        · intro w'
          go_simp
          with_reducible rfl
        rotate_left
        · simp only [Act.put, List.setIfInBounds_toArray, List.set_cons_zero, List.set_cons_succ, i64_w, i32_w]
          rfl
        refine pure_ (i := 3) (N := some 50) (v := ?_) (a' := ?_) #[true, true, true, true, false, false, false, false, false, false, false, false, false] rfl rfl (by kernel_rfl) (fun _ _ _ h => h) (Or.inl ⟨by rfl, ?_⟩) ?_ ?_
        rotate_left
        · intro w'
          go_simp
          with_reducible rfl
        rotate_left
        · simp only [Act.put, List.setIfInBounds_toArray, List.set_cons_zero, List.set_cons_succ, i64_w, i32_w]
          rfl
        refine pure_ (i := 4) (N := some 51) (v := ?_) (a' := ?_) #[true, true, true, true, true, false, false, false, false, false, false, false, false] rfl rfl (by kernel_rfl) (fun _ _ _ h => h) (Or.inl ⟨by rfl, ?_⟩) ?_ ?_
        rotate_left
        · intro w'
          go_simp
          with_reducible rfl
        rotate_left
        · simp only [Act.put, List.setIfInBounds_toArray, List.set_cons_zero, List.set_cons_succ, i64_w, i32_w]
          rfl
        refine pure_ (i := 5) (N := some 52) (v := ?_) (a' := ?_) #[true, true, true, true, true, true, false, false, false, false, false, false, false] rfl rfl (by kernel_rfl) (fun _ _ _ h => h) (Or.inl ⟨by rfl, ?_⟩) ?_ ?_
        rotate_left
        · intro w'
          go_simp
          with_reducible rfl
        rotate_left
        · simp only [Act.put, List.setIfInBounds_toArray, List.set_cons_zero, List.set_cons_succ, i64_w, i32_w]
          rfl
        refine pure_ (i := 6) (N := some 53) (v := ?_) (a' := ?_) #[true, true, true, true, true, true, true, false, false, false, false, false, false] rfl rfl (by kernel_rfl) (fun _ _ _ h => h) (Or.inl ⟨by rfl, ?_⟩) ?_ ?_
        rotate_left
        · intro w'
          go_simp
          with_reducible rfl
        rotate_left
        · simp only [Act.put, List.setIfInBounds_toArray, List.set_cons_zero, List.set_cons_succ, i64_w, i32_w]
          rfl
        refine pure_ (i := 7) (N := some 54) (v := ?_) (a' := ?_) #[true, true, true, true, true, true, true, true, false, false, false, false, false] rfl rfl (by kernel_rfl) (fun _ _ _ h => h) (Or.inl ⟨by rfl, ?_⟩) ?_ ?_
        rotate_left
        · intro w'
          go_simp
          with_reducible rfl
        rotate_left
        · simp only [Act.put, List.setIfInBounds_toArray, List.set_cons_zero, List.set_cons_succ, i64_w, i32_w]
          rfl
        refine pure_ (i := 8) (N := some 55) (v := ?_) (a' := ?_) #[true, true, true, true, true, true, true, true, true, false, false, false, false] rfl rfl (by kernel_rfl) (fun _ _ _ h => h) (Or.inl ⟨by rfl, ?_⟩) ?_ ?_
        rotate_left
        · intro w'
          go_simp
          with_reducible rfl
        rotate_left
        · simp only [Act.put, List.setIfInBounds_toArray, List.set_cons_zero, List.set_cons_succ, i64_w, i32_w]
          rfl
        refine take_ (i := 9) (N := some 56) (v := ?_) (a' := ?_) #[true, true, true, true, true, true, true, true, true, true, false, false, false] rfl rfl (by kernel_rfl) (fun _ _ _ h => h) (Or.inl ⟨by rfl, ?_⟩) hHeld ?_ ?_
        rotate_left
        · intro w' s0
          go_simp
          with_reducible rfl
        rotate_left
        · simp only [Act.put, List.setIfInBounds_toArray, List.set_cons_zero, List.set_cons_succ, i64_w, i32_w]
          rfl
        refine one_ (i := 10) (N := some 57) #[true, true, true, true, true, true, true, true, true, true, true, false, false] rfl rfl (by kernel_rfl) (by decide) (fun K hK => ?_)
        refine goes_ Try.func55 (by kernel_rfl) rfl #[.pointer (some ⟨gm, 0, none⟩), .int .i64 3] (by rfl) rfl rfl (by simp only [List.map_toArray, List.map_cons, List.map_nil]; rfl) ?_
        with_reducible refine (many_calls _ gm imps 3 Ai ci HLI.out (by have := GM.out.2; have := HB6.out.size; have := blk_lt KM6.out; simpa using this) (pw_cell_below (below_drew (Below.refl _ _)) q1) (Kd.C_below HI.out (below_drew HB6.out))).mono ?_
        rintro e w7 ⟨rfl, hb⟩
        refine ⟨_, rfl, ?_⟩
        have HBY7 : Aside0 (Below w6.heap.size w6 w7) := ⟨below_step (below_drew (Below.refl _ _)) hb⟩
        clear hb
        refine hK.out _ _ (pw_cell_below HBY7.out z1) (fun hHeld => ?_)
        clear hK K
        refine norm_ (a' := ?_) ?_ ?_
        rotate_left
        · show Act.put _ (some 57) _ = _
          simp only [Act.put, List.setIfInBounds_toArray, List.set_cons_zero, List.set_cons_succ, i64_w, i32_w]
          rfl
        refine pure_ (i := 11) (N := some 58) (v := ?_) (a' := ?_) #[true, true, true, true, true, true, true, true, true, true, true, true, false] rfl rfl (by kernel_rfl) (fun _ _ _ h => h) (Or.inl ⟨by rfl, ?_⟩) ?_ ?_
        rotate_left
        · intro w'
          go_simp
          with_reducible rfl
        rotate_left
        · simp only [Act.put, List.setIfInBounds_toArray, List.set_cons_zero, List.set_cons_succ, i64_w, i32_w]
          rfl
        refine pure_ (i := 12) (N := some 59) (v := ?_) (a' := ?_) #[true, true, true, true, true, true, true, true, true, true, true, true, true] rfl rfl (by kernel_rfl) (fun _ _ _ h => h) (Or.inl ⟨by rfl, ?_⟩) ?_ ?_
        rotate_left
        · intro w'
          go_simp
          with_reducible rfl
        rotate_left
        · simp only [Act.put, List.setIfInBounds_toArray, List.set_cons_zero, List.set_cons_succ, i64_w, i32_w]
          rfl
        refine done_ (by kernel_rfl) ?_
        go_wp2
        go_ret
        exact ⟨by rw [HR.out 0 (by rw [if_pos ⟨HN1.out, hM⟩, if_pos (by simpa using dt)])]; rfl, below_step HB6.out HBY7.out⟩
  · have HN1 := Aside0.mk hN
    have HR2 := Aside0.mk (HR.out 2000 (by rw [if_neg (fun h => hN h.1)]))
    have dN : decide ((cnt imps 3 imps.length : Int) ≤ x.f1) = true := decide_eq_true (by omega)
    obtain ⟨T, M, E, hG3⟩ : ∃ T M E, globalOf imps gs x.f1 = (T, M, E) := ⟨_, _, _, rfl⟩
    rw [hG3]
    cases dE : (E != 0) with
    | true =>
      go_wp2
      refine start_ (n := 13) (S := fun w' => w'.cell? ⟨ad.block, ad.off + 1, none⟩ = some (.int .i64 x.f1)) (ds := []) #[false, false, false, false, false, false, false, false, false, false, false, false, false] (by kernel_rfl) rfl rfl (z1) (fun hHeld => ?_)
      refine pure_ (i := 0) (N := some 47) (v := ?_) (a' := ?_) #[true, false, false, false, false, false, false, false, false, false, false, false, false] rfl rfl (by kernel_rfl) (fun _ _ _ h => h) (Or.inl ⟨by rfl, ?_⟩) ?_ ?_
      rotate_left
      · intro w'
        go_simp
        with_reducible rfl
      rotate_left
      · simp only [Act.put, List.setIfInBounds_toArray, List.set_cons_zero, List.set_cons_succ, i64_w, i32_w]
        rfl
      refine pure_ (i := 1) (N := some 48) (v := ?_) (a' := ?_) #[true, true, false, false, false, false, false, false, false, false, false, false, false] rfl rfl (by kernel_rfl) (fun _ _ _ h => h) (Or.inl ⟨by rfl, ?_⟩) ?_ ?_
      rotate_left
      · intro w'
        go_simp
        with_reducible rfl
      rotate_left
      · simp only [Act.put, List.setIfInBounds_toArray, List.set_cons_zero, List.set_cons_succ, i64_w, i32_w]
        rfl
      refine pure_ (i := 2) (N := some 49) (v := ?_) (a' := ?_) #[true, true, true, false, false, false, false, false, false, false, false, false, false] rfl rfl (by kernel_rfl) (fun _ _ _ h => h) (Or.inl ⟨by rfl, ?_⟩) ?_ ?_
      rotate_left
      · intro w'
        go_simp
        with_reducible rfl
      rotate_left
      · simp only [Act.put, List.setIfInBounds_toArray, List.set_cons_zero, List.set_cons_succ, i64_w, i32_w]
        rfl
      refine pure_ (i := 3) (N := some 50) (v := undef) (a' := ?_) #[true, true, true, true, false, false, false, false, false, false, false, false, false] rfl rfl (by kernel_rfl) (fun _ _ _ h => h) (Or.inr ⟨by rfl, rfl⟩) ?_ ?_
      rotate_left
      · simp only [Act.put, List.setIfInBounds_toArray, List.set_cons_zero, List.set_cons_succ, i64_w, i32_w]
        rfl
      refine pure_ (i := 4) (N := some 51) (v := ?_) (a' := ?_) #[true, true, true, true, true, false, false, false, false, false, false, false, false] rfl rfl (by kernel_rfl) (fun _ _ _ h => h) (Or.inl ⟨by rfl, ?_⟩) ?_ ?_
      rotate_left
      · intro w'
        go_simp
        with_reducible rfl
      rotate_left
      · simp only [Act.put, List.setIfInBounds_toArray, List.set_cons_zero, List.set_cons_succ, i64_w, i32_w]
        rfl
      refine pure_ (i := 5) (N := some 52) (v := ?_) (a' := ?_) #[true, true, true, true, true, true, false, false, false, false, false, false, false] rfl rfl (by kernel_rfl) (fun _ _ _ h => h) (Or.inl ⟨by rfl, ?_⟩) ?_ ?_
      rotate_left
      · intro w'
        go_simp
        with_reducible rfl
      rotate_left
      · simp only [Act.put, List.setIfInBounds_toArray, List.set_cons_zero, List.set_cons_succ, i64_w, i32_w]
        rfl
      refine pure_ (i := 6) (N := some 53) (v := undef) (a' := ?_) #[true, true, true, true, true, true, true, false, false, false, false, false, false] rfl rfl (by kernel_rfl) (fun _ _ _ h => h) (Or.inr ⟨by rfl, rfl⟩) ?_ ?_
      rotate_left
      · simp only [Act.put, List.setIfInBounds_toArray, List.set_cons_zero, List.set_cons_succ, i64_w, i32_w]
        rfl
      refine pure_ (i := 7) (N := some 54) (v := undef) (a' := ?_) #[true, true, true, true, true, true, true, true, false, false, false, false, false] rfl rfl (by kernel_rfl) (fun _ _ _ h => h) (Or.inr ⟨by rfl, rfl⟩) ?_ ?_
      rotate_left
      · simp only [Act.put, List.setIfInBounds_toArray, List.set_cons_zero, List.set_cons_succ, i64_w, i32_w]
        rfl
      refine pure_ (i := 8) (N := some 55) (v := undef) (a' := ?_) #[true, true, true, true, true, true, true, true, true, false, false, false, false] rfl rfl (by kernel_rfl) (fun _ _ _ h => h) (Or.inr ⟨by rfl, rfl⟩) ?_ ?_
      rotate_left
      · simp only [Act.put, List.setIfInBounds_toArray, List.set_cons_zero, List.set_cons_succ, i64_w, i32_w]
        rfl
      refine pure_ (i := 9) (N := some 56) (v := undef) (a' := ?_) #[true, true, true, true, true, true, true, true, true, true, false, false, false] rfl rfl (by kernel_rfl) (fun _ _ _ h => h) (Or.inr ⟨by rfl, rfl⟩) ?_ ?_
      rotate_left
      · simp only [Act.put, List.setIfInBounds_toArray, List.set_cons_zero, List.set_cons_succ, i64_w, i32_w]
        rfl
      refine pure_ (i := 10) (N := some 57) (v := undef) (a' := ?_) #[true, true, true, true, true, true, true, true, true, true, true, false, false] rfl rfl (by kernel_rfl) (fun _ _ _ h => h) (Or.inr ⟨by rfl, rfl⟩) ?_ ?_
      rotate_left
      · simp only [Act.put, List.setIfInBounds_toArray, List.set_cons_zero, List.set_cons_succ, i64_w, i32_w]
        rfl
      refine pure_ (i := 11) (N := some 58) (v := undef) (a' := ?_) #[true, true, true, true, true, true, true, true, true, true, true, true, false] rfl rfl (by kernel_rfl) (fun _ _ _ h => h) (Or.inr ⟨by rfl, rfl⟩) ?_ ?_
      rotate_left
      · simp only [Act.put, List.setIfInBounds_toArray, List.set_cons_zero, List.set_cons_succ, i64_w, i32_w]
        rfl
      refine pure_ (i := 12) (N := some 59) (v := ?_) (a' := ?_) #[true, true, true, true, true, true, true, true, true, true, true, true, true] rfl rfl (by kernel_rfl) (fun _ _ _ h => h) (Or.inl ⟨by rfl, ?_⟩) ?_ ?_
      rotate_left
      · intro w'
        go_simp
        with_reducible rfl
      rotate_left
      · simp only [Act.put, List.setIfInBounds_toArray, List.set_cons_zero, List.set_cons_succ, i64_w, i32_w]
        rfl
      refine done_ (by kernel_rfl) ?_
      go_wp2
      go_ret
      exact ⟨by rw [HR2.out]; rfl, HB6.out.drew⟩
    | false =>
      cases M with
      | true =>
        go_wp2
        refine start_ (n := 13) (S := fun w' => w'.cell? ⟨ad.block, ad.off + 1, none⟩ = some (.int .i64 x.f1)) (ds := []) #[false, false, false, false, false, false, false, false, false, false, false, false, false] (by kernel_rfl) rfl rfl (z1) (fun hHeld => ?_)
        refine pure_ (i := 0) (N := some 47) (v := ?_) (a' := ?_) #[true, false, false, false, false, false, false, false, false, false, false, false, false] rfl rfl (by kernel_rfl) (fun _ _ _ h => h) (Or.inl ⟨by rfl, ?_⟩) ?_ ?_
        rotate_left
        · intro w'
          go_simp
          with_reducible rfl
        rotate_left
        · simp only [Act.put, List.setIfInBounds_toArray, List.set_cons_zero, List.set_cons_succ, i64_w, i32_w]
          rfl
        refine pure_ (i := 1) (N := some 48) (v := ?_) (a' := ?_) #[true, true, false, false, false, false, false, false, false, false, false, false, false] rfl rfl (by kernel_rfl) (fun _ _ _ h => h) (Or.inl ⟨by rfl, ?_⟩) ?_ ?_
        rotate_left
        · intro w'
          go_simp
          with_reducible rfl
        rotate_left
        · simp only [Act.put, List.setIfInBounds_toArray, List.set_cons_zero, List.set_cons_succ, i64_w, i32_w]
          rfl
        refine pure_ (i := 2) (N := some 49) (v := ?_) (a' := ?_) #[true, true, true, false, false, false, false, false, false, false, false, false, false] rfl rfl (by kernel_rfl) (fun _ _ _ h => h) (Or.inl ⟨by rfl, ?_⟩) ?_ ?_
        rotate_left
        · intro w'
          go_simp
          with_reducible rfl
        rotate_left
        · simp only [Act.put, List.setIfInBounds_toArray, List.set_cons_zero, List.set_cons_succ, i64_w, i32_w]
          rfl
        refine pure_ (i := 3) (N := some 50) (v := ?_) (a' := ?_) #[true, true, true, true, false, false, false, false, false, false, false, false, false] rfl rfl (by kernel_rfl) (fun _ _ _ h => h) (Or.inl ⟨by rfl, ?_⟩) ?_ ?_
        rotate_left
        · intro w'
          go_simp
          with_reducible rfl
        rotate_left
        · simp only [Act.put, List.setIfInBounds_toArray, List.set_cons_zero, List.set_cons_succ, i64_w, i32_w]
          rfl
        refine pure_ (i := 4) (N := some 51) (v := ?_) (a' := ?_) #[true, true, true, true, true, false, false, false, false, false, false, false, false] rfl rfl (by kernel_rfl) (fun _ _ _ h => h) (Or.inl ⟨by rfl, ?_⟩) ?_ ?_
        rotate_left
        · intro w'
          go_simp
          with_reducible rfl
        rotate_left
        · simp only [Act.put, List.setIfInBounds_toArray, List.set_cons_zero, List.set_cons_succ, i64_w, i32_w]
          rfl
        refine pure_ (i := 5) (N := some 52) (v := ?_) (a' := ?_) #[true, true, true, true, true, true, false, false, false, false, false, false, false] rfl rfl (by kernel_rfl) (fun _ _ _ h => h) (Or.inl ⟨by rfl, ?_⟩) ?_ ?_
        rotate_left
        · intro w'
          go_simp
          with_reducible rfl
        rotate_left
        · simp only [Act.put, List.setIfInBounds_toArray, List.set_cons_zero, List.set_cons_succ, i64_w, i32_w]
          rfl
        refine pure_ (i := 6) (N := some 53) (v := undef) (a' := ?_) #[true, true, true, true, true, true, true, false, false, false, false, false, false] rfl rfl (by kernel_rfl) (fun _ _ _ h => h) (Or.inr ⟨by rfl, rfl⟩) ?_ ?_
        rotate_left
        · simp only [Act.put, List.setIfInBounds_toArray, List.set_cons_zero, List.set_cons_succ, i64_w, i32_w]
          rfl
        refine pure_ (i := 7) (N := some 54) (v := undef) (a' := ?_) #[true, true, true, true, true, true, true, true, false, false, false, false, false] rfl rfl (by kernel_rfl) (fun _ _ _ h => h) (Or.inr ⟨by rfl, rfl⟩) ?_ ?_
        rotate_left
        · simp only [Act.put, List.setIfInBounds_toArray, List.set_cons_zero, List.set_cons_succ, i64_w, i32_w]
          rfl
        refine pure_ (i := 8) (N := some 55) (v := undef) (a' := ?_) #[true, true, true, true, true, true, true, true, true, false, false, false, false] rfl rfl (by kernel_rfl) (fun _ _ _ h => h) (Or.inr ⟨by rfl, rfl⟩) ?_ ?_
        rotate_left
        · simp only [Act.put, List.setIfInBounds_toArray, List.set_cons_zero, List.set_cons_succ, i64_w, i32_w]
          rfl
        refine pure_ (i := 9) (N := some 56) (v := undef) (a' := ?_) #[true, true, true, true, true, true, true, true, true, true, false, false, false] rfl rfl (by kernel_rfl) (fun _ _ _ h => h) (Or.inr ⟨by rfl, rfl⟩) ?_ ?_
        rotate_left
        · simp only [Act.put, List.setIfInBounds_toArray, List.set_cons_zero, List.set_cons_succ, i64_w, i32_w]
          rfl
        refine pure_ (i := 10) (N := some 57) (v := undef) (a' := ?_) #[true, true, true, true, true, true, true, true, true, true, true, false, false] rfl rfl (by kernel_rfl) (fun _ _ _ h => h) (Or.inr ⟨by rfl, rfl⟩) ?_ ?_
        rotate_left
        · simp only [Act.put, List.setIfInBounds_toArray, List.set_cons_zero, List.set_cons_succ, i64_w, i32_w]
          rfl
        refine pure_ (i := 11) (N := some 58) (v := undef) (a' := ?_) #[true, true, true, true, true, true, true, true, true, true, true, true, false] rfl rfl (by kernel_rfl) (fun _ _ _ h => h) (Or.inr ⟨by rfl, rfl⟩) ?_ ?_
        rotate_left
        · simp only [Act.put, List.setIfInBounds_toArray, List.set_cons_zero, List.set_cons_succ, i64_w, i32_w]
          rfl
        refine pure_ (i := 12) (N := some 59) (v := ?_) (a' := ?_) #[true, true, true, true, true, true, true, true, true, true, true, true, true] rfl rfl (by kernel_rfl) (fun _ _ _ h => h) (Or.inl ⟨by rfl, ?_⟩) ?_ ?_
        rotate_left
        · intro w'
          go_simp
          with_reducible rfl
        rotate_left
        · simp only [Act.put, List.setIfInBounds_toArray, List.set_cons_zero, List.set_cons_succ, i64_w, i32_w]
          rfl
        refine done_ (by kernel_rfl) ?_
        go_wp2
        go_ret
        exact ⟨by rw [HR2.out]; rfl, HB6.out.drew⟩
      | false =>
        go_wp2
        refine start_ (n := 13) (S := fun w' => w'.cell? ⟨ad.block, ad.off + 1, none⟩ = some (.int .i64 x.f1)) (ds := []) #[false, false, false, false, false, false, false, false, false, false, false, false, false] (by kernel_rfl) rfl rfl (z1) (fun hHeld => ?_)
        refine pure_ (i := 0) (N := some 47) (v := ?_) (a' := ?_) #[true, false, false, false, false, false, false, false, false, false, false, false, false] rfl rfl (by kernel_rfl) (fun _ _ _ h => h) (Or.inl ⟨by rfl, ?_⟩) ?_ ?_
        rotate_left
        · intro w'
          go_simp
          with_reducible rfl
        rotate_left
        · simp only [Act.put, List.setIfInBounds_toArray, List.set_cons_zero, List.set_cons_succ, i64_w, i32_w]
          rfl
        refine pure_ (i := 1) (N := some 48) (v := ?_) (a' := ?_) #[true, true, false, false, false, false, false, false, false, false, false, false, false] rfl rfl (by kernel_rfl) (fun _ _ _ h => h) (Or.inl ⟨by rfl, ?_⟩) ?_ ?_
        rotate_left
        · intro w'
          go_simp
          with_reducible rfl
        rotate_left
        · simp only [Act.put, List.setIfInBounds_toArray, List.set_cons_zero, List.set_cons_succ, i64_w, i32_w]
          rfl
        refine pure_ (i := 2) (N := some 49) (v := ?_) (a' := ?_) #[true, true, true, false, false, false, false, false, false, false, false, false, false] rfl rfl (by kernel_rfl) (fun _ _ _ h => h) (Or.inl ⟨by rfl, ?_⟩) ?_ ?_
        rotate_left
        · intro w'
          go_simp
          with_reducible rfl
        rotate_left
        · simp only [Act.put, List.setIfInBounds_toArray, List.set_cons_zero, List.set_cons_succ, i64_w, i32_w]
          rfl
        refine pure_ (i := 3) (N := some 50) (v := ?_) (a' := ?_) #[true, true, true, true, false, false, false, false, false, false, false, false, false] rfl rfl (by kernel_rfl) (fun _ _ _ h => h) (Or.inl ⟨by rfl, ?_⟩) ?_ ?_
        rotate_left
        · intro w'
          go_simp
          with_reducible rfl
        rotate_left
        · simp only [Act.put, List.setIfInBounds_toArray, List.set_cons_zero, List.set_cons_succ, i64_w, i32_w]
          rfl
        refine pure_ (i := 4) (N := some 51) (v := ?_) (a' := ?_) #[true, true, true, true, true, false, false, false, false, false, false, false, false] rfl rfl (by kernel_rfl) (fun _ _ _ h => h) (Or.inl ⟨by rfl, ?_⟩) ?_ ?_
        rotate_left
        · intro w'
          go_simp
          with_reducible rfl
        rotate_left
        · simp only [Act.put, List.setIfInBounds_toArray, List.set_cons_zero, List.set_cons_succ, i64_w, i32_w]
          rfl
        refine pure_ (i := 5) (N := some 52) (v := ?_) (a' := ?_) #[true, true, true, true, true, true, false, false, false, false, false, false, false] rfl rfl (by kernel_rfl) (fun _ _ _ h => h) (Or.inl ⟨by rfl, ?_⟩) ?_ ?_
        rotate_left
        · intro w'
          go_simp
          with_reducible rfl
        rotate_left
        · simp only [Act.put, List.setIfInBounds_toArray, List.set_cons_zero, List.set_cons_succ, i64_w, i32_w]
          rfl
        refine pure_ (i := 6) (N := some 53) (v := ?_) (a' := ?_) #[true, true, true, true, true, true, true, false, false, false, false, false, false] rfl rfl (by kernel_rfl) (fun _ _ _ h => h) (Or.inl ⟨by rfl, ?_⟩) ?_ ?_
        rotate_left
        · intro w'
          go_simp
          with_reducible rfl
        rotate_left
        · simp only [Act.put, List.setIfInBounds_toArray, List.set_cons_zero, List.set_cons_succ, i64_w, i32_w]
          rfl
        refine pure_ (i := 7) (N := some 54) (v := ?_) (a' := ?_) #[true, true, true, true, true, true, true, true, false, false, false, false, false] rfl rfl (by kernel_rfl) (fun _ _ _ h => h) (Or.inl ⟨by rfl, ?_⟩) ?_ ?_
        rotate_left
        · intro w'
          go_simp
          with_reducible rfl
        rotate_left
        · simp only [Act.put, List.setIfInBounds_toArray, List.set_cons_zero, List.set_cons_succ, i64_w, i32_w]
          rfl
        refine pure_ (i := 8) (N := some 55) (v := ?_) (a' := ?_) #[true, true, true, true, true, true, true, true, true, false, false, false, false] rfl rfl (by kernel_rfl) (fun _ _ _ h => h) (Or.inl ⟨by rfl, ?_⟩) ?_ ?_
        rotate_left
        · intro w'
          go_simp
          with_reducible rfl
        rotate_left
        · simp only [Act.put, List.setIfInBounds_toArray, List.set_cons_zero, List.set_cons_succ, i64_w, i32_w]
          rfl
        refine take_ (i := 9) (N := some 56) (v := ?_) (a' := ?_) #[true, true, true, true, true, true, true, true, true, true, false, false, false] rfl rfl (by kernel_rfl) (fun _ _ _ h => h) (Or.inl ⟨by rfl, ?_⟩) hHeld ?_ ?_
        rotate_left
        · intro w' s0
          go_simp
          with_reducible rfl
        rotate_left
        · simp only [Act.put, List.setIfInBounds_toArray, List.set_cons_zero, List.set_cons_succ, i64_w, i32_w]
          rfl
        refine one_ (i := 10) (N := some 57) #[true, true, true, true, true, true, true, true, true, true, true, false, false] rfl rfl (by kernel_rfl) (by decide) (fun K hK => ?_)
        refine goes_ Try.func55 (by kernel_rfl) rfl #[.pointer (some ⟨gm, 0, none⟩), .int .i64 3] (by rfl) rfl rfl (by simp only [List.map_toArray, List.map_cons, List.map_nil]; rfl) ?_
        with_reducible refine (many_calls _ gm imps 3 Ai ci HLI.out (by have := GM.out.2; have := HB6.out.size; have := blk_lt KM6.out; simpa using this) (pw_cell_below (below_drew (Below.refl _ _)) q1) (Kd.C_below HI.out (below_drew HB6.out))).mono ?_
        rintro e w7 ⟨rfl, hb⟩
        refine ⟨_, rfl, ?_⟩
        have HBY7 : Aside0 (Below w6.heap.size w6 w7) := ⟨below_step (below_drew (Below.refl _ _)) hb⟩
        clear hb
        refine hK.out _ _ (pw_cell_below HBY7.out z1) (fun hHeld => ?_)
        clear hK K
        refine norm_ (a' := ?_) ?_ ?_
        rotate_left
        · show Act.put _ (some 57) _ = _
          simp only [Act.put, List.setIfInBounds_toArray, List.set_cons_zero, List.set_cons_succ, i64_w, i32_w]
          rfl
        refine pure_ (i := 11) (N := some 58) (v := ?_) (a' := ?_) #[true, true, true, true, true, true, true, true, true, true, true, true, false] rfl rfl (by kernel_rfl) (fun _ _ _ h => h) (Or.inl ⟨by rfl, ?_⟩) ?_ ?_
        rotate_left
        · intro w'
          go_simp
          with_reducible rfl
        rotate_left
        · simp only [Act.put, List.setIfInBounds_toArray, List.set_cons_zero, List.set_cons_succ, i64_w, i32_w]
          rfl
        refine pure_ (i := 12) (N := some 59) (v := ?_) (a' := ?_) #[true, true, true, true, true, true, true, true, true, true, true, true, true] rfl rfl (by kernel_rfl) (fun _ _ _ h => h) (Or.inl ⟨by rfl, ?_⟩) ?_ ?_
        rotate_left
        · intro w'
          go_simp
          with_reducible rfl
        rotate_left
        · simp only [Act.put, List.setIfInBounds_toArray, List.set_cons_zero, List.set_cons_succ, i64_w, i32_w]
          rfl
        refine done_ (by kernel_rfl) ?_
        go_wp2
        go_ret
        exact ⟨by rw [HR2.out]; rfl, below_step HB6.out HBY7.out⟩
theorem check_calls {w : World} {imps : List S90} {gs : List S93} {is : List S106} {A : Option Addr} {c : Nat} (A0 Ai A2 A3 A4 Ag A6 A8 A9 A10 : Option Addr) (n0 n2 n3 n4 n6 n8 n9 n10 c0 ci c2 c3 c4 cg c6 c8 c9 c10 : Nat) (st : Int) {t : Int} (hlen : imps.length ≤ 140737488351232) (hgl : gs.length ≤ 140737488351232) (hI : k90.C w Ai imps.length imps) (hG : k93.C w Ag gs.length gs) (hA : k106.C w A is.length is) (hc : is.length ≤ c) : Calls Try.prog 41 #[.agg #[.slice A0 n0 c0, .slice Ai imps.length ci, .slice A2 n2 c2, .slice A3 n3 c3, .slice A4 n4 c4, .slice Ag gs.length cg, .slice A6 n6 c6, .int .i64 st, .slice A8 n8 c8, .slice A9 n9 c9, .slice A10 n10 c10], .slice A is.length c, .int .i64 t] w fun e w' => e = .returned (.int .i64 (constE imps is t)) ∧ Below w.heap.size w w' := by
  by_cases hy : isCon is
  · exact check_yes A0 Ai A2 A3 A4 Ag A6 A8 A9 A10 n0 n2 n3 n4 n6 n8 n9 n10 c0 ci c2 c3 c4 cg c6 c8 c9 c10 st hlen hgl hI hG hA hc hy
  · by_cases hx : (is.length = 1 ∧ mayE is = 0) ∧ (hd is).f0 = 35
    · exact check_get A0 Ai A2 A3 A4 Ag A6 A8 A9 A10 n0 n2 n3 n4 n6 n8 n9 n10 c0 ci c2 c3 c4 cg c6 c8 c9 c10 st hlen hgl hI hG hA hc hy hx.1.1 hx.1.2 hx.2
    · exact check_none A0 Ai A2 A3 A4 Ag A6 A8 A9 A10 n0 n2 n3 n4 n6 n8 n9 n10 c0 ci c2 c3 c4 cg c6 c8 c9 c10 st hlen hgl hI hG hA hc hy hx
end Go.Proofs.Ytmofdpkddimmlaa.EInstr
namespace Go.Proofs.Ytmofdpkddimmlaa.EInstr
open Go Go.RowKit Go.Proofs.Ytmofdpkddimmlaa.F Go.Proofs.YtmofdpkddimmlaaW.Hand Go.Proofs.YtmofdpkddimmlaaW.PrintWords Go.Proofs.YtmofdpkddimmlaaW.PrintLast Go.Proofs.YtmofdpkddimmlaaW.PrintMore
open Go.Proofs.Ytmofdpkddimmlaa.EFty (cnt nth globalOf outAt global_calls many_calls imported_calls cells90 cnt_le)
set_option linter.unusedVariables false
set_option linter.unusedSimpArgs false
set_option maxHeartbeats 8000000 in
set_option maxRecDepth 100000 in
theorem rconst_none {w : World} {imps : List S90} {is : List S106} {A : Option Addr} {c : Nat} (A0 Ai A2 A3 A4 Ag A6 A8 A9 A10 : Option Addr) (n0 n2 n3 n4 n5 n6 n8 n9 n10 c0 ci c2 c3 c4 cg c6 c8 c9 c10 : Nat) (st : Int) {t : Int} (hlen : imps.length ≤ 140737488351232) (hI : k90.C w Ai imps.length imps) (hA : k106.C w A is.length is) (hc : is.length ≤ c) (hn : ¬ isCon is) (hx : ¬ ((is.length = 1 ∧ mayE is = 0) ∧ (hd is).f0 = 35)) : Calls Try.prog 44 #[.agg #[.slice A0 n0 c0, .slice Ai imps.length ci, .slice A2 n2 c2, .slice A3 n3 c3, .slice A4 n4 c4, .slice Ag n5 cg, .slice A6 n6 c6, .int .i64 st, .slice A8 n8 c8, .slice A9 n9 c9, .slice A10 n10 c10], .slice A is.length c, .int .i64 t] w fun e w' => e = .returned (.int .i64 (constE imps is t)) ∧ Below w.heap.size w w' := by
  have HA := Aside0.mk hA
  have HC := Aside0.mk hc
  have HN := Aside0.mk hn
  have HR := Aside0.mk (show constE imps is t = 2000 by unfold constE; rw [if_neg hn, if_neg (fun h => hx ⟨h.1, h.2.1⟩)])
  have HX := Aside0.mk hx
  have HE := Aside0.mk (show chkE is = chkE is from rfl)
  clear hA hc hn hI hlen hx
  by_cases hl : is.length = 1
  · obtain ⟨ad, rfl, e0, e1, e3⟩ := hd_at (c := c) HA.out hl
    have dl : ((is.length : Int) != 1) = false := by rw [hl]; rfl
    have hpos : 0 < is.length := by omega
    have E0 := Aside0.mk e0
    have HL := Aside0.mk hl
    clear e0 e1 e3
    by_cases he : chkE is = 0
    · have de : (chkE is != 0) = false := by rw [he]; rfl
      have hm := (may_chk is).2 he
      have d5 : ((hd is).f0 == 35) = false := by
        have h : ¬ (hd is).f0 = 35 := fun h => HX.out ⟨⟨hl, hm⟩, h⟩
        simpa using h
      have hcc : (decide (65 ≤ (hd is).f0) = false) ∨ (decide (65 ≤ (hd is).f0) = true ∧ decide ((hd is).f0 ≤ 68) = false) := by
        by_cases h : 65 ≤ (hd is).f0
        · exact .inr ⟨decide_eq_true h, decide_eq_false (fun h2 => HN.out ⟨⟨hl, hm⟩, h, h2⟩)⟩
        · exact .inl (decide_eq_false h)
      clear hl he hm
      generalize hd is = x at *
      rcases hcc with d1 | ⟨d1, d2⟩
      all_goals
        go_enter Try.func44, Try.ntmps44
        go_wp2_with (first
          | ((with_reducible refine gate_dst (N := 3) rfl ?_); refine box_event ?hg (N := 3) ?hd (cs := #[.slice A0 n0 c0, .slice Ai imps.length ci, .slice A2 n2 c2, .slice A3 n3 c3, .slice A4 n4 c4, .slice Ag n5 cg, .slice A6 n6 c6, .int .i64 st, .slice A8 n8 c8, .slice A9 n9 c9, .slice A10 n10 c10]) (t := 69) ?hr ?_; (case hd => rfl); (case hg => rfl); (case hr => first | (go_simp; done) | (go_simp; rfl)); intro gm hggm w1 hA hb; have GM := Aside0.mk (show w.heap.size ≤ gm ∧ gm < w1.heap.size by rw [hggm]; exact ⟨Nat.le_refl _, hggm ▸ blk_lt hA⟩); have HB1 := Aside0.mk hb; have KM1 := Aside0.mk hA; clear hggm hA hb)
          | (go_at_call 66; (with_reducible refine (chk_k HE.out (Kd.C_below HA.out HB1.out) HC.out).mono ?_); rintro e w2 ⟨⟨mm, rfl⟩, hb⟩; have HB2 := Aside0.mk (below_step HB1.out hb); have KM2 := Aside0.mk (blk_below KM1.out hb); have z0 := pw_cell_below HB2.out E0.out; clear hb KM1 HB1))
        go_ret
        exact ⟨by rw [HR.out]; rfl, HB2.out⟩
    · have de : (chkE is != 0) = true := by simpa using he
      clear hl he
      go_enter Try.func44, Try.ntmps44
      go_wp2_with (first
        | ((with_reducible refine gate_dst (N := 3) rfl ?_); refine box_event ?hg (N := 3) ?hd (cs := #[.slice A0 n0 c0, .slice Ai imps.length ci, .slice A2 n2 c2, .slice A3 n3 c3, .slice A4 n4 c4, .slice Ag n5 cg, .slice A6 n6 c6, .int .i64 st, .slice A8 n8 c8, .slice A9 n9 c9, .slice A10 n10 c10]) (t := 69) ?hr ?_; (case hd => rfl); (case hg => rfl); (case hr => first | (go_simp; done) | (go_simp; rfl)); intro gm hggm w1 hA hb; have GM := Aside0.mk (show w.heap.size ≤ gm ∧ gm < w1.heap.size by rw [hggm]; exact ⟨Nat.le_refl _, hggm ▸ blk_lt hA⟩); have HB1 := Aside0.mk hb; have KM1 := Aside0.mk hA; clear hggm hA hb)
        | (go_at_call 66; (with_reducible refine (chk_k HE.out (Kd.C_below HA.out HB1.out) HC.out).mono ?_); rintro e w2 ⟨⟨mm, rfl⟩, hb⟩; have HB2 := Aside0.mk (below_step HB1.out hb); have KM2 := Aside0.mk (blk_below KM1.out hb); clear hb KM1 HB1))
      go_ret
      exact ⟨by rw [HR.out]; rfl, HB2.out⟩
  · have dl : ((is.length : Int) != 1) = true := by simp; omega
    clear hl
    go_enter Try.func44, Try.ntmps44
    go_wp2_with (first
      | ((with_reducible refine gate_dst (N := 3) rfl ?_); refine box_event ?hg (N := 3) ?hd (cs := #[.slice A0 n0 c0, .slice Ai imps.length ci, .slice A2 n2 c2, .slice A3 n3 c3, .slice A4 n4 c4, .slice Ag n5 cg, .slice A6 n6 c6, .int .i64 st, .slice A8 n8 c8, .slice A9 n9 c9, .slice A10 n10 c10]) (t := 69) ?hr ?_; (case hd => rfl); (case hg => rfl); (case hr => first | (go_simp; done) | (go_simp; rfl)); intro gm hggm w1 hA hb; have GM := Aside0.mk (show w.heap.size ≤ gm ∧ gm < w1.heap.size by rw [hggm]; exact ⟨Nat.le_refl _, hggm ▸ blk_lt hA⟩); have HB1 := Aside0.mk hb; have KM1 := Aside0.mk hA; clear hggm hA hb)
      | (go_at_call 66; (with_reducible refine (chk_k HE.out (Kd.C_below HA.out HB1.out) HC.out).mono ?_); rintro e w2 ⟨⟨mm, rfl⟩, hb⟩; have HB2 := Aside0.mk (below_step HB1.out hb); have KM2 := Aside0.mk (blk_below KM1.out hb); clear hb KM1 HB1))
    go_ret
    exact ⟨by rw [HR.out]; rfl, HB2.out⟩
set_option maxHeartbeats 8000000 in
set_option maxRecDepth 100000 in
theorem rconst_yes {w : World} {imps : List S90} {is : List S106} {A : Option Addr} {c : Nat} (A0 Ai A2 A3 A4 Ag A6 A8 A9 A10 : Option Addr) (n0 n2 n3 n4 n5 n6 n8 n9 n10 c0 ci c2 c3 c4 cg c6 c8 c9 c10 : Nat) (st : Int) {t : Int} (hlen : imps.length ≤ 140737488351232) (hI : k90.C w Ai imps.length imps) (hA : k106.C w A is.length is) (hc : is.length ≤ c) (hy : isCon is) : Calls Try.prog 44 #[.agg #[.slice A0 n0 c0, .slice Ai imps.length ci, .slice A2 n2 c2, .slice A3 n3 c3, .slice A4 n4 c4, .slice Ag n5 cg, .slice A6 n6 c6, .int .i64 st, .slice A8 n8 c8, .slice A9 n9 c9, .slice A10 n10 c10], .slice A is.length c, .int .i64 t] w fun e w' => e = .returned (.int .i64 (constE imps is t)) ∧ Below w.heap.size w w' := by
  have hr : ∀ b : Bool, (conT (hd is) != t) = b → constE imps is t = if b then 2001 else 0 := fun b hb => by
    unfold constE
    rw [if_pos hy]
    cases b
    · rw [if_pos (by simpa using hb)]; rfl
    · rw [if_neg (by simpa using hb)]; rfl
  obtain ⟨⟨hl, he⟩, h1, h2⟩ := hy
  have HA := Aside0.mk hA
  have HC := Aside0.mk hc
  have HE := Aside0.mk ((may_chk is).1 he)
  obtain ⟨ad, rfl, e0, e1, e3⟩ := hd_at (c := c) hA hl
  have dl : ((is.length : Int) != 1) = false := by rw [hl]; rfl
  have hpos : 0 < is.length := by omega
  have d1 : decide (65 ≤ (hd is).f0) = true := decide_eq_true (by omega)
  have d2 : decide ((hd is).f0 ≤ 68) = true := decide_eq_true (by omega)
  have wa : wrap64 ((hd is).f0 - 65) = (hd is).f0 - 65 := by unfold wrap64; omega
  have wb : wrap64 (127 - ((hd is).f0 - 65)) = conT (hd is) := by unfold wrap64 conT; omega
  have wc : IntKind.i64.wrap ((hd is).f0 - 65) = (hd is).f0 - 65 := (i64_w _).trans wa
  have wdd : IntKind.i64.wrap (127 - ((hd is).f0 - 65)) = conT (hd is) := (i64_w _).trans wb
  have E0 := Aside0.mk e0
  clear hA hc he hl h1 h2 e0 e1 e3 hI hlen
  cases dt : (conT (hd is) != t) with
  | true =>
    have HR := Aside0.mk (hr true dt)
    clear hr
    generalize hd is = x at *
    go_enter Try.func44, Try.ntmps44
    go_wp2_with (first
      | ((with_reducible refine gate_dst (N := 3) rfl ?_); refine box_event ?hg (N := 3) ?hd (cs := #[.slice A0 n0 c0, .slice Ai imps.length ci, .slice A2 n2 c2, .slice A3 n3 c3, .slice A4 n4 c4, .slice Ag n5 cg, .slice A6 n6 c6, .int .i64 st, .slice A8 n8 c8, .slice A9 n9 c9, .slice A10 n10 c10]) (t := 69) ?hr ?_; (case hd => rfl); (case hg => rfl); (case hr => first | (go_simp; done) | (go_simp; rfl)); intro gm hggm w1 hA hb; have GM := Aside0.mk (show w.heap.size ≤ gm ∧ gm < w1.heap.size by rw [hggm]; exact ⟨Nat.le_refl _, hggm ▸ blk_lt hA⟩); have HB1 := Aside0.mk hb; have KM1 := Aside0.mk hA; clear hggm hA hb)
      | (go_at_call 66; (with_reducible refine (chk_k HE.out (Kd.C_below HA.out HB1.out) HC.out).mono ?_); rintro e w2 ⟨⟨mm, rfl⟩, hb⟩; have HB2 := Aside0.mk (below_step HB1.out hb); have KM2 := Aside0.mk (blk_below KM1.out hb); have z0 := pw_cell_below HB2.out E0.out; clear hb KM1 HB1))
    go_ret
    exact ⟨by rw [HR.out]; rfl, HB2.out⟩
  | false =>
    have HR := Aside0.mk (hr false dt)
    clear hr
    generalize hd is = x at *
    go_enter Try.func44, Try.ntmps44
    go_wp2_with (first
      | ((with_reducible refine gate_dst (N := 3) rfl ?_); refine box_event ?hg (N := 3) ?hd (cs := #[.slice A0 n0 c0, .slice Ai imps.length ci, .slice A2 n2 c2, .slice A3 n3 c3, .slice A4 n4 c4, .slice Ag n5 cg, .slice A6 n6 c6, .int .i64 st, .slice A8 n8 c8, .slice A9 n9 c9, .slice A10 n10 c10]) (t := 69) ?hr ?_; (case hd => rfl); (case hg => rfl); (case hr => first | (go_simp; done) | (go_simp; rfl)); intro gm hggm w1 hA hb; have GM := Aside0.mk (show w.heap.size ≤ gm ∧ gm < w1.heap.size by rw [hggm]; exact ⟨Nat.le_refl _, hggm ▸ blk_lt hA⟩); have HB1 := Aside0.mk hb; have KM1 := Aside0.mk hA; clear hggm hA hb)
      | (go_at_call 66; (with_reducible refine (chk_k HE.out (Kd.C_below HA.out HB1.out) HC.out).mono ?_); rintro e w2 ⟨⟨mm, rfl⟩, hb⟩; have HB2 := Aside0.mk (below_step HB1.out hb); have KM2 := Aside0.mk (blk_below KM1.out hb); have z0 := pw_cell_below HB2.out E0.out; clear hb KM1 HB1))
    go_ret
    exact ⟨by rw [HR.out]; rfl, HB2.out⟩
theorem out_hd {imps : List S90} {a : Int} (h0 : 0 ≤ a) (h : a < (cnt imps 3 imps.length : Int)) : outAt imps 3 a imps.length = nth imps 3 a := by
  unfold outAt
  rw [if_pos ⟨h0, h⟩]
set_option maxHeartbeats 16000000 in
set_option maxRecDepth 100000 in
theorem rconst_get {w : World} {imps : List S90} {is : List S106} {A : Option Addr} {c : Nat} (A0 Ai A2 A3 A4 Ag A6 A8 A9 A10 : Option Addr) (n0 n2 n3 n4 n5 n6 n8 n9 n10 c0 ci c2 c3 c4 cg c6 c8 c9 c10 : Nat) (st : Int) {t : Int} (hlen : imps.length ≤ 140737488351232) (hI : k90.C w Ai imps.length imps) (hA : k106.C w A is.length is) (hc : is.length ≤ c) (hn : ¬ isCon is) (hl : is.length = 1) (he : mayE is = 0) (h35 : (hd is).f0 = 35) : Calls Try.prog 44 #[.agg #[.slice A0 n0 c0, .slice Ai imps.length ci, .slice A2 n2 c2, .slice A3 n3 c3, .slice A4 n4 c4, .slice Ag n5 cg, .slice A6 n6 c6, .int .i64 st, .slice A8 n8 c8, .slice A9 n9 c9, .slice A10 n10 c10], .slice A is.length c, .int .i64 t] w fun e w' => e = .returned (.int .i64 (constE imps is t)) ∧ Below w.heap.size w w' := by
  have hmb := may_get (may_hd hl he) h35
  have hr : ∀ r, (if (hd is).f1 < (cnt imps 3 imps.length : Int) ∧ (nth imps 3 (hd is).f1).f4 = false then (if (nth imps 3 (hd is).f1).f3 = t then 0 else 2001) else 2000 : Int) = r → constE imps is t = r := fun r hr => by
    unfold constE
    rw [if_neg hn, ← hr]
    by_cases h : (hd is).f1 < (cnt imps 3 imps.length : Int) ∧ (nth imps 3 (hd is).f1).f4 = false
    · rw [if_pos h, if_pos ⟨⟨hl, he⟩, h35, h⟩]
    · rw [if_neg h, if_neg (fun h' => h h'.2.2)]
  obtain ⟨ad, rfl, e0, e1, e3⟩ := hd_at (c := c) hA hl
  have HA := Aside0.mk hA
  have HC := Aside0.mk hc
  have HI := Aside0.mk hI
  have HLI := Aside0.mk hlen
  have HE := Aside0.mk ((may_chk is).1 he)
  have dl : ((is.length : Int) != 1) = false := by rw [hl]; rfl
  have hpos : 0 < is.length := by omega
  have d5 : ((hd is).f0 == 35) = true := by rw [h35]; rfl
  have d1 : decide (65 ≤ (hd is).f0) = false := decide_eq_false (by omega)
  have HR := Aside0.mk hr
  clear hr hA hc hn hI hlen hl he h35 e3
  generalize hd is = x at *
  have HF1 := Aside0.mk (show 0 ≤ x.f1 ∧ x.f1 < 9223372036854775808 by omega)
  have E0 := Aside0.mk e0
  have E1 := Aside0.mk e1
  clear hmb e0 e1
  go_enter Try.func44, Try.ntmps44
  go_wp2_with (first
    | ((with_reducible refine gate_dst (N := 3) rfl ?_); refine box_event ?hg (N := 3) ?hd (cs := #[.slice A0 n0 c0, .slice Ai imps.length ci, .slice A2 n2 c2, .slice A3 n3 c3, .slice A4 n4 c4, .slice Ag n5 cg, .slice A6 n6 c6, .int .i64 st, .slice A8 n8 c8, .slice A9 n9 c9, .slice A10 n10 c10]) (t := 69) ?hr ?_; (case hd => rfl); (case hg => rfl); (case hr => first | (go_simp; done) | (go_simp; rfl)); intro gm hggm w1 hA hb; have GM := Aside0.mk (show w.heap.size ≤ gm ∧ gm < w1.heap.size by rw [hggm]; exact ⟨Nat.le_refl _, hggm ▸ blk_lt hA⟩); have HB1 := Aside0.mk hb; have KM1 := Aside0.mk hA; clear hggm hA hb)
    | (go_at_call 66; (with_reducible refine (chk_k HE.out (Kd.C_below HA.out HB1.out) HC.out).mono ?_); rintro e w2 ⟨⟨mm, rfl⟩, hb⟩; have HB2 := Aside0.mk (below_step HB1.out hb); have KM2 := Aside0.mk (blk_below KM1.out hb); have z0 := pw_cell_below HB2.out E0.out; have z1 := pw_cell_below HB2.out E1.out; have hKM := KM2.out; have q0 : w2.cell? ⟨gm, 0, none⟩ = some (.slice A0 n0 c0) := blk_cell hKM 0; have q1 : w2.cell? ⟨gm, 1, none⟩ = some (.slice Ai imps.length ci) := blk_cell hKM 1; have q2 : w2.cell? ⟨gm, 2, none⟩ = some (.slice A2 n2 c2) := blk_cell hKM 2; have q3 : w2.cell? ⟨gm, 3, none⟩ = some (.slice A3 n3 c3) := blk_cell hKM 3; have q4 : w2.cell? ⟨gm, 4, none⟩ = some (.slice A4 n4 c4) := blk_cell hKM 4; have q5 : w2.cell? ⟨gm, 5, none⟩ = some (.slice Ag n5 cg) := blk_cell hKM 5; have q6 : w2.cell? ⟨gm, 6, none⟩ = some (.slice A6 n6 c6) := blk_cell hKM 6; have q7 : w2.cell? ⟨gm, 7, none⟩ = some (.int .i64 st) := blk_cell hKM 7; have q8 : w2.cell? ⟨gm, 8, none⟩ = some (.slice A8 n8 c8) := blk_cell hKM 8; have q9 : w2.cell? ⟨gm, 9, none⟩ = some (.slice A9 n9 c9) := blk_cell hKM 9; have q10 : w2.cell? ⟨gm, 10, none⟩ = some (.slice A10 n10 c10) := blk_cell hKM 10; clear hKM; clear hb KM1 HB1))
  refine start_ (n := 12) (S := fun w' => w'.cell? ⟨gm, 0, none⟩ = some (.slice A0 n0 c0) ∧ w'.cell? ⟨gm, 1, none⟩ = some (.slice Ai imps.length ci) ∧ w'.cell? ⟨gm, 2, none⟩ = some (.slice A2 n2 c2) ∧ w'.cell? ⟨gm, 3, none⟩ = some (.slice A3 n3 c3) ∧ w'.cell? ⟨gm, 4, none⟩ = some (.slice A4 n4 c4) ∧ w'.cell? ⟨gm, 5, none⟩ = some (.slice Ag n5 cg) ∧ w'.cell? ⟨gm, 6, none⟩ = some (.slice A6 n6 c6) ∧ w'.cell? ⟨gm, 7, none⟩ = some (.int .i64 st) ∧ w'.cell? ⟨gm, 8, none⟩ = some (.slice A8 n8 c8) ∧ w'.cell? ⟨gm, 9, none⟩ = some (.slice A9 n9 c9) ∧ w'.cell? ⟨gm, 10, none⟩ = some (.slice A10 n10 c10) ∧ w'.cell? ⟨ad.block, ad.off + 1, none⟩ = some (.int .i64 x.f1)) (ds := [11]) #[false, false, false, false, false, false, false, false, false, false, false, false] (by kernel_rfl) rfl rfl ⟨q0, q1, q2, q3, q4, q5, q6, q7, q8, q9, q10, z1⟩ (fun hHeld => ?_)
  refine pure_ (i := 1) (N := some 51) (v := ?_) (a' := ?_) #[false, true, false, false, false, false, false, false, false, false, false, false] rfl rfl (by kernel_rfl) (fun _ _ _ h => h) (Or.inl ⟨by rfl, ?_⟩) ?_ ?_
  rotate_left
  · intro w'
    go_simp
    with_reducible rfl
  rotate_left
  · simp only [Act.put, List.setIfInBounds_toArray, List.set_cons_zero, List.set_cons_succ, i64_w, i32_w]
    rfl
  refine pure_ (i := 2) (N := some 52) (v := ?_) (a' := ?_) #[false, true, true, false, false, false, false, false, false, false, false, false] rfl rfl (by kernel_rfl) (fun _ _ _ h => h) (Or.inl ⟨by rfl, ?_⟩) ?_ ?_
  rotate_left
  · intro w'
    go_simp
    with_reducible rfl
  rotate_left
  · simp only [Act.put, List.setIfInBounds_toArray, List.set_cons_zero, List.set_cons_succ, i64_w, i32_w]
    rfl
  refine pure_ (i := 3) (N := some 53) (v := ?_) (a' := ?_) #[false, true, true, true, false, false, false, false, false, false, false, false] rfl rfl (by kernel_rfl) (fun _ _ _ h => h) (Or.inl ⟨by rfl, ?_⟩) ?_ ?_
  rotate_left
  · intro w'
    go_simp
    with_reducible rfl
  rotate_left
  · simp only [Act.put, List.setIfInBounds_toArray, List.set_cons_zero, List.set_cons_succ, i64_w, i32_w]
    rfl
  refine take_ (i := 0) (N := some 50) (v := ?_) (a' := ?_) #[true, true, true, true, false, false, false, false, false, false, false, false] rfl rfl (by kernel_rfl) (fun _ _ _ h => h) (Or.inl ⟨by rfl, ?_⟩) hHeld ?_ ?_
  rotate_left
  · rintro w' ⟨s0, s1, s2, s3, s4, s5, s6, s7, s8, s9, s10, s11⟩
    go_simp
    with_reducible rfl
  rotate_left
  · simp only [Act.put, List.setIfInBounds_toArray, List.set_cons_zero, List.set_cons_succ, i64_w, i32_w]
    rfl
  refine take_ (i := 4) (N := some 54) (v := ?_) (a' := ?_) #[true, true, true, true, true, false, false, false, false, false, false, false] rfl rfl (by kernel_rfl) (fun _ _ _ h => h) (Or.inl ⟨by rfl, ?_⟩) hHeld ?_ ?_
  rotate_left
  · rintro w' ⟨s0, s1, s2, s3, s4, s5, s6, s7, s8, s9, s10, s11⟩
    go_simp
    with_reducible rfl
  rotate_left
  · simp only [Act.put, List.setIfInBounds_toArray, List.set_cons_zero, List.set_cons_succ, i64_w, i32_w]
    rfl
  refine join_ (σ := Nat) 2 #[true, true, true, true, true, true, true, true, true, true, false, false] (fun s => [(10, .pointer (some ⟨s, 0, none⟩)), (55, .tuple #[.agg (cells90 (outAt imps 3 x.f1 imps.length)), .int .i64 (cnt imps 3 imps.length : Int)]), (49, .tuple #[.agg (cells90 (outAt imps 3 x.f1 imps.length)), .int .i64 (cnt imps 3 imps.length : Int)]), (56, .agg (cells90 (outAt imps 3 x.f1 imps.length))), (57, .int .i64 (cnt imps 3 imps.length : Int))]) (fun s W => W.heap[s]? = some (.cells #[.string ⟨#[]⟩, .string ⟨#[]⟩, .int .i64 0, .int .i64 0, .bool false, .int .i64 0, .int .i64 0] 90 (0, 0)) ∧ w2.heap.size ≤ s ∧ Below w2.heap.size w2 W) ?_ ?_
  rotate_left
  · intro hCont
    refine two_ (i := 5) (j := 9) (Ni := some 55) (Nj := some 10) #[true, true, true, true, true, true, false, false, false, false, false, false] #[true, true, true, true, true, false, false, false, false, true, false, false] rfl rfl rfl rfl (by kernel_rfl) (by decide) (by decide) (fun K hK => ?_) (fun K hK => ?_)
    · skip
      refine goes_ Try.func53 (by kernel_rfl) rfl #[.agg #[.slice A0 n0 c0, .slice Ai imps.length ci, .slice A2 n2 c2, .slice A3 n3 c3, .slice A4 n4 c4, .slice Ag n5 cg, .slice A6 n6 c6, .int .i64 st, .slice A8 n8 c8, .slice A9 n9 c9, .slice A10 n10 c10], .int .i64 3, .int .i64 x.f1] (by rfl) rfl rfl (by simp only [List.map_toArray, List.map_cons, List.map_nil]; rfl) ?_
      with_reducible refine (imported_calls _ imps 3 x.f1 A0 Ai A2 A3 A4 Ag A6 A8 A9 A10 n0 n2 n3 n4 n5 n6 n8 n9 n10 c0 ci c2 c3 c4 cg c6 c8 c9 c10 st HLI.out (Kd.C_below HI.out (below_drew HB2.out))).mono ?_
      rintro e wc ⟨rfl, hb⟩
      refine ⟨_, rfl, ?_⟩
      have HYC : Aside0 (Below w2.heap.size w2 wc) := ⟨below_step (below_drew (Below.refl _ _)) hb⟩
      have HBC : Aside0 (Below w.heap.size w wc) := ⟨below_step (below_drew HB2.out) hb⟩
      clear hb
      refine hK.out _ _ ⟨pw_cell_below HYC.out q0, pw_cell_below HYC.out q1, pw_cell_below HYC.out q2, pw_cell_below HYC.out q3, pw_cell_below HYC.out q4, pw_cell_below HYC.out q5, pw_cell_below HYC.out q6, pw_cell_below HYC.out q7, pw_cell_below HYC.out q8, pw_cell_below HYC.out q9, pw_cell_below HYC.out q10, pw_cell_below HYC.out z1⟩ (fun hHeld => ?_)
      clear hK K
      refine norm_ (a' := ?_) ?_ ?_
      rotate_left
      · show Act.put _ (some 55) _ = _
        simp only [Act.put, List.setIfInBounds_toArray, List.set_cons_zero, List.set_cons_succ, i64_w, i32_w]
        rfl
      refine pure_ (i := 6) (N := some 49) (v := ?_) (a' := ?_) #[true, true, true, true, true, true, true, false, false, false, false, false] rfl rfl (by kernel_rfl) (fun _ _ _ h => h) (Or.inl ⟨by rfl, ?_⟩) ?_ ?_
      rotate_left
      · intro w'
        go_simp
        with_reducible rfl
      rotate_left
      · simp only [Act.put, List.setIfInBounds_toArray, List.set_cons_zero, List.set_cons_succ, i64_w, i32_w]
        rfl
      refine pure_ (i := 7) (N := some 56) (v := ?_) (a' := ?_) #[true, true, true, true, true, true, true, true, false, false, false, false] rfl rfl (by kernel_rfl) (fun _ _ _ h => h) (Or.inl ⟨by rfl, ?_⟩) ?_ ?_
      rotate_left
      · intro w'
        go_simp
        with_reducible rfl
      rotate_left
      · simp only [Act.put, List.setIfInBounds_toArray, List.set_cons_zero, List.set_cons_succ, i64_w, i32_w]
        rfl
      refine pure_ (i := 8) (N := some 57) (v := ?_) (a' := ?_) #[true, true, true, true, true, true, true, true, true, false, false, false] rfl rfl (by kernel_rfl) (fun _ _ _ h => h) (Or.inl ⟨by rfl, ?_⟩) ?_ ?_
      rotate_left
      · intro w'
        go_simp
        with_reducible rfl
      rotate_left
      · simp only [Act.put, List.setIfInBounds_toArray, List.set_cons_zero, List.set_cons_succ, i64_w, i32_w]
        rfl
      refine one_ (i := 9) (N := some 10) #[true, true, true, true, true, true, true, true, true, true, false, false] rfl rfl (by kernel_rfl) (by decide) (fun K hK => ?_)
      refine boxg_step ?hw (N := 10) ?hd (cs := #[.string ⟨#[]⟩, .string ⟨#[]⟩, .int .i64 0, .int .i64 0, .bool false, .int .i64 0, .int .i64 0]) (t := 90) ?hr ?_
      case hw => rfl
      case hd => rfl
      case hr => first | (go_simp; done) | (go_simp; rfl)
      intro g hg wa hA hb
      have HYA : Aside0 (Below w2.heap.size w2 wa) := ⟨below_step (HYC.out) hb⟩
      have HBA : Aside0 (Below w.heap.size w wa) := ⟨below_step (HBC.out) hb⟩
      have K9 := Aside0.mk hA
      have G9 : Aside0 (w2.heap.size ≤ g) := ⟨by rw [hg]; exact HYC.out.size⟩
      clear hA hb hg
      refine hK.out _ _ ⟨pw_cell_below HYA.out q0, pw_cell_below HYA.out q1, pw_cell_below HYA.out q2, pw_cell_below HYA.out q3, pw_cell_below HYA.out q4, pw_cell_below HYA.out q5, pw_cell_below HYA.out q6, pw_cell_below HYA.out q7, pw_cell_below HYA.out q8, pw_cell_below HYA.out q9, pw_cell_below HYA.out q10, pw_cell_below HYA.out z1⟩ (fun hHeld => ?_)
      clear hK K
      refine norm_ (a' := ?_) ?_ ?_
      rotate_left
      · show Act.put _ (some 10) _ = _
        simp only [Act.put, List.setIfInBounds_toArray, List.set_cons_zero, List.set_cons_succ, i64_w, i32_w]
        rfl
      exact norm_ (by simp only [putAll, Act.put, List.setIfInBounds_toArray, List.set_cons_zero, List.set_cons_succ]) (hCont g _ ⟨K9.out, G9.out, HYA.out⟩)
    · skip
      refine boxg_step ?hw (N := 10) ?hd (cs := #[.string ⟨#[]⟩, .string ⟨#[]⟩, .int .i64 0, .int .i64 0, .bool false, .int .i64 0, .int .i64 0]) (t := 90) ?hr ?_
      case hw => rfl
      case hd => rfl
      case hr => first | (go_simp; done) | (go_simp; rfl)
      intro g hg wa hA hb
      have HYA : Aside0 (Below w2.heap.size w2 wa) := ⟨below_step (below_drew (Below.refl _ _)) hb⟩
      have HBA : Aside0 (Below w.heap.size w wa) := ⟨below_step (below_drew HB2.out) hb⟩
      have K9 := Aside0.mk hA
      have G9 : Aside0 (w2.heap.size ≤ g) := ⟨by rw [hg]; exact Nat.le_refl _⟩
      clear hA hb hg
      refine hK.out _ _ ⟨pw_cell_below HYA.out q0, pw_cell_below HYA.out q1, pw_cell_below HYA.out q2, pw_cell_below HYA.out q3, pw_cell_below HYA.out q4, pw_cell_below HYA.out q5, pw_cell_below HYA.out q6, pw_cell_below HYA.out q7, pw_cell_below HYA.out q8, pw_cell_below HYA.out q9, pw_cell_below HYA.out q10, pw_cell_below HYA.out z1⟩ (fun hHeld => ?_)
      clear hK K
      refine norm_ (a' := ?_) ?_ ?_
      rotate_left
      · show Act.put _ (some 10) _ = _
        simp only [Act.put, List.setIfInBounds_toArray, List.set_cons_zero, List.set_cons_succ, i64_w, i32_w]
        rfl
      refine one_ (i := 5) (N := some 55) #[true, true, true, true, true, true, false, false, false, true, false, false] rfl rfl (by kernel_rfl) (by decide) (fun K hK => ?_)
      refine goes_ Try.func53 (by kernel_rfl) rfl #[.agg #[.slice A0 n0 c0, .slice Ai imps.length ci, .slice A2 n2 c2, .slice A3 n3 c3, .slice A4 n4 c4, .slice Ag n5 cg, .slice A6 n6 c6, .int .i64 st, .slice A8 n8 c8, .slice A9 n9 c9, .slice A10 n10 c10], .int .i64 3, .int .i64 x.f1] (by rfl) rfl rfl (by simp only [List.map_toArray, List.map_cons, List.map_nil]; rfl) ?_
      with_reducible refine (imported_calls _ imps 3 x.f1 A0 Ai A2 A3 A4 Ag A6 A8 A9 A10 n0 n2 n3 n4 n5 n6 n8 n9 n10 c0 ci c2 c3 c4 cg c6 c8 c9 c10 st HLI.out (Kd.C_below HI.out (HBA.out))).mono ?_
      rintro e wc ⟨rfl, hb⟩
      refine ⟨_, rfl, ?_⟩
      have HYC : Aside0 (Below w2.heap.size w2 wc) := ⟨below_step (HYA.out) hb⟩
      have K10 := Aside0.mk (blk_below K9.out hb)
      clear hb
      refine hK.out _ _ ⟨pw_cell_below HYC.out q0, pw_cell_below HYC.out q1, pw_cell_below HYC.out q2, pw_cell_below HYC.out q3, pw_cell_below HYC.out q4, pw_cell_below HYC.out q5, pw_cell_below HYC.out q6, pw_cell_below HYC.out q7, pw_cell_below HYC.out q8, pw_cell_below HYC.out q9, pw_cell_below HYC.out q10, pw_cell_below HYC.out z1⟩ (fun hHeld => ?_)
      clear hK K
      refine norm_ (a' := ?_) ?_ ?_
      rotate_left
      · show Act.put _ (some 55) _ = _
        simp only [Act.put, List.setIfInBounds_toArray, List.set_cons_zero, List.set_cons_succ, i64_w, i32_w]
        rfl
      refine pure_ (i := 6) (N := some 49) (v := ?_) (a' := ?_) #[true, true, true, true, true, true, true, false, false, true, false, false] rfl rfl (by kernel_rfl) (fun _ _ _ h => h) (Or.inl ⟨by rfl, ?_⟩) ?_ ?_
      rotate_left
      · intro w'
        go_simp
        with_reducible rfl
      rotate_left
      · simp only [Act.put, List.setIfInBounds_toArray, List.set_cons_zero, List.set_cons_succ, i64_w, i32_w]
        rfl
      refine pure_ (i := 7) (N := some 56) (v := ?_) (a' := ?_) #[true, true, true, true, true, true, true, true, false, true, false, false] rfl rfl (by kernel_rfl) (fun _ _ _ h => h) (Or.inl ⟨by rfl, ?_⟩) ?_ ?_
      rotate_left
      · intro w'
        go_simp
        with_reducible rfl
      rotate_left
      · simp only [Act.put, List.setIfInBounds_toArray, List.set_cons_zero, List.set_cons_succ, i64_w, i32_w]
        rfl
      refine pure_ (i := 8) (N := some 57) (v := ?_) (a' := ?_) #[true, true, true, true, true, true, true, true, true, true, false, false] rfl rfl (by kernel_rfl) (fun _ _ _ h => h) (Or.inl ⟨by rfl, ?_⟩) ?_ ?_
      rotate_left
      · intro w'
        go_simp
        with_reducible rfl
      rotate_left
      · simp only [Act.put, List.setIfInBounds_toArray, List.set_cons_zero, List.set_cons_succ, i64_w, i32_w]
        rfl
      exact norm_ (by simp only [putAll, Act.put, List.setIfInBounds_toArray, List.set_cons_zero, List.set_cons_succ]) (hCont g _ ⟨K10.out, G9.out, HYC.out⟩)
  rintro g w3 ⟨h1, h2, h3⟩
  have K3 := Aside0.mk h1
  have G3 := Aside0.mk h2
  have HY3 := Aside0.mk h3
  have HB3 := Aside0.mk (below_step HB2.out h3)
  clear h1 h2 h3
  refine norm_ (a' := ?_) ?_ ?_
  rotate_left
  · simp only [putAll, Act.put, List.setIfInBounds_toArray, List.set_cons_zero, List.set_cons_succ]
    rfl
  refine one_ (i := 10) (N := none) #[true, true, true, true, true, true, true, true, true, true, true, false] rfl rfl (by kernel_rfl) (by decide) (fun K hK => ?_)
  refine storeRow_step (g := g) (by rfl) rfl rfl (cs := cells90 (outAt imps 3 x.f1 imps.length)) rfl rfl K3.out (by kernel_rfl) rfl (by simp [Value.oneCell', cells90]) ?_
  intro w4 hA hb ho hs
  have HB4 := Aside0.mk (hb _ _ (Nat.le_trans HB2.out.size G3.out) HB3.out)
  have y3 : w4.cell? ⟨g, 3, none⟩ = some (.int .i64 (outAt imps 3 x.f1 imps.length).f3) := blk_cell hA 3
  have y4 : w4.cell? ⟨g, 4, none⟩ = some (.bool (outAt imps 3 x.f1 imps.length).f4) := blk_cell hA 4
  have HY4 : Aside0 (Below w2.heap.size w2 w4) := ⟨hb _ _ G3.out HY3.out⟩
  clear hA hb ho hs
  refine hK.out _ _ ⟨pw_cell_below HY4.out q0, pw_cell_below HY4.out q1, pw_cell_below HY4.out q2, pw_cell_below HY4.out q3, pw_cell_below HY4.out q4, pw_cell_below HY4.out q5, pw_cell_below HY4.out q6, pw_cell_below HY4.out q7, pw_cell_below HY4.out q8, pw_cell_below HY4.out q9, pw_cell_below HY4.out q10, pw_cell_below HY4.out z1⟩ (fun hHeld => ?_)
  clear hK K
  refine pure_ (i := 11) (N := some 11) (v := ?_) (a' := ?_) #[true, true, true, true, true, true, true, true, true, true, true, true] rfl rfl (by kernel_rfl) (fun _ _ _ h => h) (Or.inl ⟨by rfl, ?_⟩) ?_ ?_
  rotate_left
  · intro w'
    go_simp
    with_reducible rfl
  rotate_left
  · simp only [Act.put, List.setIfInBounds_toArray, List.set_cons_zero, List.set_cons_succ, i64_w, i32_w]
    rfl
  refine done_ (by kernel_rfl) ?_
  by_cases hN : x.f1 < (cnt imps 3 imps.length : Int)
  · have dN : decide ((cnt imps 3 imps.length : Int) ≤ x.f1) = false := decide_eq_false (by omega)
    have HN1 := Aside0.mk hN
    rw [out_hd HF1.out.1 hN] at y3 y4
    cases hM : (nth imps 3 x.f1).f4 with
    | true =>
      have HR2 := Aside0.mk (HR.out 2000 (by rw [if_neg (by rw [hM]; simp)]))
      rw [hM] at y4
      go_wp2
      go_ret
      exact ⟨by rw [HR2.out]; rfl, HB4.out⟩
    | false =>
      rw [hM] at y4
      cases dt : ((nth imps 3 x.f1).f3 != t) with
      | true =>
        have HR2 := Aside0.mk (HR.out 2001 (by rw [if_pos ⟨hN, hM⟩, if_neg (by simpa using dt)]))
        go_wp2
        go_ret
        exact ⟨by rw [HR2.out]; rfl, HB4.out⟩
      | false =>
        have HR2 := Aside0.mk (HR.out 0 (by rw [if_pos ⟨hN, hM⟩, if_pos (by simpa using dt)]))
        go_wp2
        go_ret
        exact ⟨by rw [HR2.out]; rfl, HB4.out⟩
  · have HR2 := Aside0.mk (HR.out 2000 (by rw [if_neg (fun h => hN h.1)]))
    have dN : decide ((cnt imps 3 imps.length : Int) ≤ x.f1) = true := decide_eq_true (by omega)
    generalize (outAt imps 3 x.f1 imps.length) = ot at *
    go_wp2
    go_ret
    exact ⟨by rw [HR2.out]; rfl, HB4.out⟩
theorem rconst_calls {w : World} {imps : List S90} {is : List S106} {A : Option Addr} {c : Nat} (A0 Ai A2 A3 A4 Ag A6 A8 A9 A10 : Option Addr) (n0 n2 n3 n4 n5 n6 n8 n9 n10 c0 ci c2 c3 c4 cg c6 c8 c9 c10 : Nat) (st : Int) {t : Int} (hlen : imps.length ≤ 140737488351232) (hI : k90.C w Ai imps.length imps) (hA : k106.C w A is.length is) (hc : is.length ≤ c) : Calls Try.prog 44 #[.agg #[.slice A0 n0 c0, .slice Ai imps.length ci, .slice A2 n2 c2, .slice A3 n3 c3, .slice A4 n4 c4, .slice Ag n5 cg, .slice A6 n6 c6, .int .i64 st, .slice A8 n8 c8, .slice A9 n9 c9, .slice A10 n10 c10], .slice A is.length c, .int .i64 t] w fun e w' => e = .returned (.int .i64 (constE imps is t)) ∧ Below w.heap.size w w' := by
  by_cases hy : isCon is
  · exact rconst_yes A0 Ai A2 A3 A4 Ag A6 A8 A9 A10 n0 n2 n3 n4 n5 n6 n8 n9 n10 c0 ci c2 c3 c4 cg c6 c8 c9 c10 st hlen hI hA hc hy
  · by_cases hx : (is.length = 1 ∧ mayE is = 0) ∧ (hd is).f0 = 35
    · exact rconst_get A0 Ai A2 A3 A4 Ag A6 A8 A9 A10 n0 n2 n3 n4 n5 n6 n8 n9 n10 c0 ci c2 c3 c4 cg c6 c8 c9 c10 st hlen hI hA hc hy hx.1.1 hx.1.2 hx.2
    · exact rconst_none A0 Ai A2 A3 A4 Ag A6 A8 A9 A10 n0 n2 n3 n4 n5 n6 n8 n9 n10 c0 ci c2 c3 c4 cg c6 c8 c9 c10 st hlen hI hA hc hy hx
end Go.Proofs.Ytmofdpkddimmlaa.EInstr
namespace Go.Proofs.Ytmofdpkddimmlaa.EInstr
open Go Go.RowKit Go.Proofs.Ytmofdpkddimmlaa.F Go.Proofs.YtmofdpkddimmlaaW.Hand Go.Proofs.YtmofdpkddimmlaaW.PrintWords Go.Proofs.YtmofdpkddimmlaaW.PrintLast Go.Proofs.YtmofdpkddimmlaaW.PrintMore
open Go.Proofs.Ytmofdpkddimmlaa.EFty (cnt nth cnt_le)
set_option linter.unusedVariables false
set_option linter.unusedSimpArgs false
theorem num_calls (x : Int) (w : World) : Calls Try.prog 20 #[.int .i64 x] w fun e w' => e = .returned (.int .i64 x) ∧ Below w.heap.size w w' := by
  go_enter Try.func20, Try.ntmps20
  go_wp2
  go_ret
  first | exact ⟨rfl, Below.refl _ _⟩ | exact ⟨rfl, below_drew (Below.refl _ _)⟩
theorem C_row1 {α : Type} {d : Kd α} {W : World} {g : Nat} {x : α} {cs : Array Value} {t : TypeId} (h : W.heap[g]? = some (.cells cs t (0, 0))) (hx : d.K W x cs.toList) (hl : cs.toList.length = d.sz) (hs : 0 < d.sz) : d.C W (some ⟨g, 0, none⟩) 1 [x] := by
  refine ⟨rfl, by simp, fun _ => ⟨_, rfl, fun j p hp => ?_⟩⟩
  match j with
  | 0 =>
    obtain rfl : x = p := by simpa using hp
    refine ⟨cs.toList, hl, hx, fun i u hu => ?_⟩
    rw [add_plain, blk_cell h]
    simpa using hu
  | j + 1 => simp at hp
theorem C_row2 {α : Type} {d : Kd α} {W : World} {g : Nat} {x y : α} {cs : Array Value} {cx cy : List Value} {t : TypeId} (h : W.heap[g]? = some (.cells cs t (0, 0))) (he : cs.toList = cx ++ cy) (hx : d.K W x cx) (hy : d.K W y cy) (hlx : cx.length = d.sz) (hly : cy.length = d.sz) : d.C W (some ⟨g, 0, none⟩) 2 [x, y] := by
  have he2 : ∀ i : Nat, cs[i]? = (cx ++ cy)[i]? := fun i => by rw [← he]; simp
  refine ⟨rfl, by simp, fun _ => ⟨_, rfl, fun j p hp => ?_⟩⟩
  match j with
  | 0 =>
    obtain rfl : x = p := by simpa using hp
    refine ⟨cx, hlx, hx, fun i u hu => ?_⟩
    rw [add_plain, blk_cell h, he2]
    rw [List.getElem?_append_left]
    · simpa using hu
    · have := (List.getElem?_eq_some_iff.1 hu).1
      omega
  | 1 =>
    obtain rfl : y = p := by simpa using hp
    refine ⟨cy, hly, hy, fun i u hu => ?_⟩
    rw [add_plain, blk_cell h, he2]
    rw [List.getElem?_append_right (by omega)]
    rw [← hu]
    congr 1
    omega
  | j + 2 => simp at hp
/-- An instruction of a constant. -/
def leaf (a0 a1 a3 : Int) : S106 := ⟨a0, a1, 0, a3, 0, [], [], []⟩
theorem leaf_K (W : World) (a0 a1 a3 : Int) : k106.K W (leaf a0 a1 a3) [.int .i64 a0, .int .i64 a1, .int .i64 0, .int .i64 a3, .int .i64 0, .slice none 0 0, .slice none 0 0, .slice none 0 0] :=
  k106_mk W (leaf a0 a1 a3) (Nat.le_refl _) (Kd.C_nil _ _) (Nat.le_refl _) (Kd.C_nil _ _) (Nat.le_refl _) (Kd.C_nil _ _)
theorem leaf_at {W : World} {l : Nat} {a0 a1 a3 : Int} (h : W.heap[l]? = some (.cells #[.int .i64 a0, .int .i64 a1, .int .i64 0, .int .i64 a3, .int .i64 0, .slice none 0 0, .slice none 0 0, .slice none 0 0] 106 (0, 0))) : k106.C W (some ⟨l, 0, none⟩) 1 [leaf a0 a1 a3] :=
  C_row1 h (leaf_K W a0 a1 a3) rfl (by decide)
theorem leaf_may (x : S106) (h6 : x.f6 = []) (h7 : x.f7 = []) : mayE [x] = 0 ↔ mayB x = true := by
  unfold mayE
  rw [pre_one, h6, h7, pre_nil, scanE_cons]
  have h : stepE (0 + 1) (0, x) = if mayB x = false then 1400 else 0 := by
    unfold stepE
    rw [if_neg (by simp)]
    by_cases hm : mayB x = false
    · rw [if_pos (Or.inr hm), if_pos hm]
    · rw [if_neg (by simp [hm]), if_neg hm]
  rw [h]
  cases mayB x <;> simp [scanE]
theorem leaf_con (x : S106) (h6 : x.f6 = []) (h7 : x.f7 = []) : isCon [x] ↔ mayB x = true ∧ 65 ≤ x.f0 ∧ x.f0 ≤ 68 := by
  have hh : hd [x] = x := rfl
  unfold isCon
  rw [hh, leaf_may x h6 h7]
  simp
def constL (imps : List S90) (x : S106) (t : Int) : Int :=
  if mayB x = true ∧ 65 ≤ x.f0 ∧ x.f0 ≤ 68 then (if conT x = t then 0 else 2001)
  else if mayB x = true ∧ x.f0 = 35 ∧ x.f1 < (cnt imps 3 imps.length : Int) ∧ (nth imps 3 x.f1).f4 = false then (if (nth imps 3 x.f1).f3 = t then 0 else 2001) else 2000
theorem leaf_const (imps : List S90) (x : S106) (t : Int) (h6 : x.f6 = []) (h7 : x.f7 = []) : constE imps [x] t = constL imps x t := by
  have hh : hd [x] = x := rfl
  unfold constE constL
  rw [hh]
  simp only [leaf_con x h6 h7, leaf_may x h6 h7, List.length_singleton, true_and]
def valL (x : S106) : Int × Int × Int := if mayB x = true ∧ 65 ≤ x.f0 ∧ x.f0 ≤ 68 then (conT x, x.f3, 0) else (0, 0, 2000)
theorem leaf_val (x : S106) (h6 : x.f6 = []) (h7 : x.f7 = []) : valT [x] = (valL x).1 ∧ valB [x] = (valL x).2.1 ∧ valE [x] = (valL x).2.2 := by
  have hh : hd [x] = x := rfl
  unfold valT valB valE valL
  simp only [leaf_con x h6 h7, hh]
  by_cases h : mayB x = true ∧ 65 ≤ x.f0 ∧ x.f0 ≤ 68
  · simp [h]
  · simp [if_neg h]
theorem leaf_check {W : World} {imps : List S90} {gs : List S93} {l : Nat} {a0 a1 a3 : Int} {A0 Ai A2 A3 A4 Ag A6 A8 A9 A10 : Option Addr} {n0 ni n2 n3 n4 ng n6 n8 n9 n10 c0 ci c2 c3 c4 cg c6 c8 c9 c10 : Nat} {st : Int} {t r : Int} (hlen : imps.length ≤ 140737488351232) (hgl : gs.length ≤ 140737488351232) (hni : imps.length = ni) (hng : gs.length = ng) (hI : k90.C W Ai ni imps) (hG : k93.C W Ag ng gs)
    (h : W.heap[l]? = some (.cells #[.int .i64 a0, .int .i64 a1, .int .i64 0, .int .i64 a3, .int .i64 0, .slice none 0 0, .slice none 0 0, .slice none 0 0] 106 (0, 0))) (hr : constL imps (leaf a0 a1 a3) t = r) :
    Calls Try.prog 41 #[.agg #[.slice A0 n0 c0, .slice Ai ni ci, .slice A2 n2 c2, .slice A3 n3 c3, .slice A4 n4 c4, .slice Ag ng cg, .slice A6 n6 c6, .int .i64 st, .slice A8 n8 c8, .slice A9 n9 c9, .slice A10 n10 c10], .slice (some ⟨l, 0, none⟩) 1 1, .int .i64 t] W fun e w' => e = .returned (.int .i64 r) ∧ Below W.heap.size W w' := by
  subst hni hng hr
  rw [← leaf_const imps (leaf a0 a1 a3) t rfl rfl]
  exact check_calls A0 Ai A2 A3 A4 Ag A6 A8 A9 A10 n0 n2 n3 n4 n6 n8 n9 n10 c0 ci c2 c3 c4 cg c6 c8 c9 c10 st hlen hgl hI hG (leaf_at h) (Nat.le_refl _)
theorem leaf_value {W : World} {l : Nat} {a0 a1 a3 : Int} {A0 Ai A2 A3 A4 Ag A6 A8 A9 A10 : Option Addr} {n0 ni n2 n3 n4 ng n6 n8 n9 n10 c0 ci c2 c3 c4 cg c6 c8 c9 c10 : Nat} {st : Int} {v b e : Int} (h : W.heap[l]? = some (.cells #[.int .i64 a0, .int .i64 a1, .int .i64 0, .int .i64 a3, .int .i64 0, .slice none 0 0, .slice none 0 0, .slice none 0 0] 106 (0, 0))) (hr : valL (leaf a0 a1 a3) = (v, b, e)) :
    Calls Try.prog 42 #[.agg #[.slice A0 n0 c0, .slice Ai ni ci, .slice A2 n2 c2, .slice A3 n3 c3, .slice A4 n4 c4, .slice Ag ng cg, .slice A6 n6 c6, .int .i64 st, .slice A8 n8 c8, .slice A9 n9 c9, .slice A10 n10 c10], .slice (some ⟨l, 0, none⟩) 1 1] W fun r w' => r = .returned (.tuple #[.agg #[.int .i64 v, .int .i64 b], .int .i64 e]) ∧ Below W.heap.size W w' := by
  have hx := leaf_val (leaf a0 a1 a3) rfl rfl
  rw [hr] at hx
  have h1 : valT [leaf a0 a1 a3] = v := hx.1
  have h2 : valB [leaf a0 a1 a3] = b := hx.2.1
  have h3 : valE [leaf a0 a1 a3] = e := hx.2.2
  rw [← h1, ← h2, ← h3]
  have hv := value_calls (w := W) (imps := List.replicate ni z90) (gs := List.replicate ng z93) A0 Ai A2 A3 A4 Ag A6 A8 A9 A10 n0 n2 n3 n4 n6 n8 n9 n10 c0 ci c2 c3 c4 cg c6 c8 c9 c10 st (leaf_at h) (Nat.le_refl _)
  rw [List.length_replicate, List.length_replicate] at hv
  exact hv
def awI : List S90 := [⟨⟨#[]⟩, ⟨#[]⟩, 3, 127, false, ⟨0, 0⟩⟩]
set_option maxHeartbeats 8000000 in
set_option maxRecDepth 100000 in
theorem awake_calls (w : World) : Calls Try.prog 46 #[] w fun e w' => e = .returned (.bool true) ∧ Below w.heap.size w w' := by
  go_enter Try.func46, Try.ntmps46
  go_wp2_with (first
    | ((with_reducible refine gate_dst (N := 11) rfl ?_); refine lit_event ?hg (N := 11) ?hd (cs := #[.string ⟨#[]⟩, .string ⟨#[]⟩, .int .i64 3, .int .i64 127, .bool false, .int .i64 0, .int .i64 0]) (t := 90) (n := 1) ?hr ?_; (case hd => rfl); (case hg => rfl); (case hr => first | (go_simp; done) | (go_simp; rfl)); intro l11 hgl11 w1 hA hb; have L1 := Aside0.mk hA; have HB1 := Aside0.mk hb; clear hA hb hgl11)
    | ((with_reducible refine gate_dst (N := 1) rfl ?_); refine box_event ?hg (N := 1) ?hd (cs := #[.slice none 0 0, .slice none 0 0, .slice none 0 0, .slice none 0 0, .slice none 0 0, .slice none 0 0, .slice none 0 0, .int .i64 0, .slice none 0 0, .slice none 0 0, .slice none 0 0]) (t := 69) ?hr ?_; (case hd => rfl); (case hg => rfl); (case hr => first | (go_simp; done) | (go_simp; rfl)); intro g hgg w2 hA hb; have G := Aside0.mk (show w.heap.size ≤ g ∧ l11 ≠ g by rw [hgg]; exact ⟨HB1.out.size, Nat.ne_of_lt (blk_lt L1.out)⟩); have L2 := Aside0.mk (blk_below L1.out hb); have HB2 := Aside0.mk (below_step HB1.out hb); have K2 := Aside0.mk hA; clear hA hb hgg L1 HB1)
    | ((with_reducible refine gate_store (p := 1) rfl ?_); refine storeRow_event (g := g) rfl rfl rfl (cs := #[.slice none 0 0, .slice (some ⟨l11, 0, none⟩) 1 1, .slice none 0 0, .slice none 0 0, .slice none 0 0, .slice none 0 0, .slice none 0 0, .int .i64 0, .slice none 0 0, .slice none 0 0, .slice none 0 0]) rfl rfl K2.out (by kernel_rfl) rfl (by simp [Value.oneCell']) ?_; intro w3 hA hb ho hs; have HB3 := Aside0.mk (hb _ _ G.out.1 HB2.out); have LI := Aside0.mk (show k90.C w3 (some ⟨l11, 0, none⟩) 1 awI from C_row1 ((ho l11 G.out.2).trans L2.out) (k90_mk _ _) rfl (by decide)); have BG := Aside0.mk hA; have hy : Below w3.heap.size w3 w3 := Below.refl _ _; have x_0 : ∀ W, Below w3.heap.size w3 W → W.cell? ⟨g, 0, none⟩ = some (.slice none 0 0) := fun W h => pw_cell_below h (blk_cell BG.out 0); have x_1 : ∀ W, Below w3.heap.size w3 W → W.cell? ⟨g, 1, none⟩ = some (.slice (some ⟨l11, 0, none⟩) 1 1) := fun W h => pw_cell_below h (blk_cell BG.out 1); have x_2 : ∀ W, Below w3.heap.size w3 W → W.cell? ⟨g, 2, none⟩ = some (.slice none 0 0) := fun W h => pw_cell_below h (blk_cell BG.out 2); have x_3 : ∀ W, Below w3.heap.size w3 W → W.cell? ⟨g, 3, none⟩ = some (.slice none 0 0) := fun W h => pw_cell_below h (blk_cell BG.out 3); have x_4 : ∀ W, Below w3.heap.size w3 W → W.cell? ⟨g, 4, none⟩ = some (.slice none 0 0) := fun W h => pw_cell_below h (blk_cell BG.out 4); have x_5 : ∀ W, Below w3.heap.size w3 W → W.cell? ⟨g, 5, none⟩ = some (.slice none 0 0) := fun W h => pw_cell_below h (blk_cell BG.out 5); have x_6 : ∀ W, Below w3.heap.size w3 W → W.cell? ⟨g, 6, none⟩ = some (.slice none 0 0) := fun W h => pw_cell_below h (blk_cell BG.out 6); have x_7 : ∀ W, Below w3.heap.size w3 W → W.cell? ⟨g, 7, none⟩ = some (.int .i64 0) := fun W h => pw_cell_below h (blk_cell BG.out 7); have x_8 : ∀ W, Below w3.heap.size w3 W → W.cell? ⟨g, 8, none⟩ = some (.slice none 0 0) := fun W h => pw_cell_below h (blk_cell BG.out 8); have x_9 : ∀ W, Below w3.heap.size w3 W → W.cell? ⟨g, 9, none⟩ = some (.slice none 0 0) := fun W h => pw_cell_below h (blk_cell BG.out 9); have x_10 : ∀ W, Below w3.heap.size w3 W → W.cell? ⟨g, 10, none⟩ = some (.slice none 0 0) := fun W h => pw_cell_below h (blk_cell BG.out 10); clear hA hb ho hs K2 L2 HB2 BG)
    | ((with_reducible refine gate_dst (N := 15) rfl ?_); refine lit_event ?hg (N := 15) ?hd (cs := #[.int .i64 65, .int .i64 0, .int .i64 0, .int .i64 3, .int .i64 0, .slice none 0 0, .slice none 0 0, .slice none 0 0]) (t := 106) (n := 1) ?hr ?_; (case hd => rfl); (case hg => rfl); (case hr => first | (go_simp; done) | (go_simp; rfl)); intro l15 hgl15 w4 hA hb; have L15 := Aside0.mk hA; have hy0 := hy; clear hy; have hy : Below w3.heap.size w3 w4 := below_step hy0 hb; clear hy0; clear hA hb hgl15)
    | (go_at_call 41; (with_reducible refine (leaf_check (imps := awI) (gs := []) (a0 := 65) (a1 := 0) (a3 := 3) (ni := 1) (ng := 0) (t := 127) (r := 0) (by decide) (by decide) (by decide) (by decide) (Kd.C_below LI.out hy) (Kd.C_nil _ _) L15.out (by decide +kernel)).mono ?_); rintro e w5 ⟨rfl, hb⟩; have hy0 := hy; clear hy; have hy : Below w3.heap.size w3 w5 := below_step hy0 hb; clear hy0; clear hb L15)
    | ((with_reducible refine gate_dst (N := 19) rfl ?_); refine lit_event ?hg (N := 19) ?hd (cs := #[.int .i64 35, .int .i64 0, .int .i64 0, .int .i64 0, .int .i64 0, .slice none 0 0, .slice none 0 0, .slice none 0 0]) (t := 106) (n := 1) ?hr ?_; (case hd => rfl); (case hg => rfl); (case hr => first | (go_simp; done) | (go_simp; rfl)); intro l19 hgl19 w6 hA hb; have L19 := Aside0.mk hA; have hy0 := hy; clear hy; have hy : Below w3.heap.size w3 w6 := below_step hy0 hb; clear hy0; clear hA hb hgl19)
    | (go_at_call 41; (with_reducible refine (leaf_check (imps := awI) (gs := []) (a0 := 35) (a1 := 0) (a3 := 0) (ni := 1) (ng := 0) (t := 127) (r := 0) (by decide) (by decide) (by decide) (by decide) (Kd.C_below LI.out hy) (Kd.C_nil _ _) L19.out (by decide +kernel)).mono ?_); rintro e w7 ⟨rfl, hb⟩; have hy0 := hy; clear hy; have hy : Below w3.heap.size w3 w7 := below_step hy0 hb; clear hy0; clear hb L19)
    | ((with_reducible refine gate_dst (N := 23) rfl ?_); refine lit_event ?hg (N := 23) ?hd (cs := #[.int .i64 1, .int .i64 0, .int .i64 0, .int .i64 0, .int .i64 0, .slice none 0 0, .slice none 0 0, .slice none 0 0]) (t := 106) (n := 1) ?hr ?_; (case hd => rfl); (case hg => rfl); (case hr => first | (go_simp; done) | (go_simp; rfl)); intro l23 hgl23 w8 hA hb; have L23 := Aside0.mk hA; have hy0 := hy; clear hy; have hy : Below w3.heap.size w3 w8 := below_step hy0 hb; clear hy0; clear hA hb hgl23)
    | (go_at_call 41; (with_reducible refine (leaf_check (imps := awI) (gs := []) (a0 := 1) (a1 := 0) (a3 := 0) (ni := 1) (ng := 0) (t := 127) (r := 2000) (by decide) (by decide) (by decide) (by decide) (Kd.C_below LI.out hy) (Kd.C_nil _ _) L23.out (by decide +kernel)).mono ?_); rintro e w9 ⟨rfl, hb⟩; have hy0 := hy; clear hy; have hy : Below w3.heap.size w3 w9 := below_step hy0 hb; clear hy0; clear hb L23)
    | ((with_reducible refine gate_dst (N := 27) rfl ?_); refine lit_event ?hg (N := 27) ?hd (cs := #[.int .i64 66, .int .i64 0, .int .i64 0, .int .i64 0, .int .i64 0, .slice none 0 0, .slice none 0 0, .slice none 0 0]) (t := 106) (n := 1) ?hr ?_; (case hd => rfl); (case hg => rfl); (case hr => first | (go_simp; done) | (go_simp; rfl)); intro l27 hgl27 w10 hA hb; have L27 := Aside0.mk hA; have hy0 := hy; clear hy; have hy : Below w3.heap.size w3 w10 := below_step hy0 hb; clear hy0; clear hA hb hgl27)
    | (go_at_call 41; (with_reducible refine (leaf_check (imps := awI) (gs := []) (a0 := 66) (a1 := 0) (a3 := 0) (ni := 1) (ng := 0) (t := 127) (r := 2001) (by decide) (by decide) (by decide) (by decide) (Kd.C_below LI.out hy) (Kd.C_nil _ _) L27.out (by decide +kernel)).mono ?_); rintro e w11 ⟨rfl, hb⟩; have hy0 := hy; clear hy; have hy : Below w3.heap.size w3 w11 := below_step hy0 hb; clear hy0; clear hb L27)
    | ((with_reducible refine gate_dst (N := 32) rfl ?_); refine lit_event ?hg (N := 32) ?hd (cs := #[.int .i64 67, .int .i64 0, .int .i64 0, .int .i64 9, .int .i64 0, .slice none 0 0, .slice none 0 0, .slice none 0 0]) (t := 106) (n := 1) ?hr ?_; (case hd => rfl); (case hg => rfl); (case hr => first | (go_simp; done) | (go_simp; rfl)); intro l32 hgl32 w12 hA hb; have L32 := Aside0.mk hA; have hy0 := hy; clear hy; have hy : Below w3.heap.size w3 w12 := below_step hy0 hb; clear hy0; clear hA hb hgl32)
    | (go_at_call 42; (with_reducible refine (leaf_value (a0 := 67) (a1 := 0) (a3 := 9) (v := 125) (b := 9) (e := 0) L32.out (by decide +kernel)).mono ?_); rintro e w13 ⟨rfl, hb⟩; have hy0 := hy; clear hy; have hy : Below w3.heap.size w3 w13 := below_step hy0 hb; clear hy0; clear hb L32)
    | ((with_reducible refine gate_dst (N := 6) rfl ?_); refine box_event ?hg (N := 6) ?hd (cs := #[.int .i64 0, .int .i64 0]) (t := 56) ?hr ?_; (case hd => rfl); (case hg => rfl); (case hr => first | (go_simp; done) | (go_simp; rfl)); intro g6 hgg6 w14 hA hb; have G6 := Aside0.mk (show w3.heap.size ≤ g6 by rw [hgg6]; exact hy.size); have K6 := Aside0.mk hA; have hy0 := hy; clear hy; have hy : Below w3.heap.size w3 w14 := below_step hy0 hb; clear hy0; clear hA hb hgg6)
    | ((with_reducible refine gate_store (p := 6) rfl ?_); refine storeRow_event (g := g6) rfl rfl rfl (cs := #[.int .i64 125, .int .i64 9]) rfl rfl K6.out (by kernel_rfl) rfl (by simp [Value.oneCell']) ?_; intro wr6 hA hb ho hs; have hy0 := hy; clear hy; have hy : Below w3.heap.size w3 wr6 := hb _ _ G6.out hy0; clear hy0; have hz : Below wr6.heap.size wr6 wr6 := Below.refl _ _; have BV := Aside0.mk hA; have v_0 : ∀ W, Below wr6.heap.size wr6 W → W.cell? ⟨g6, 0, none⟩ = some (.int .i64 125) := fun W h => pw_cell_below h (blk_cell BV.out 0); have v_1 : ∀ W, Below wr6.heap.size wr6 W → W.cell? ⟨g6, 1, none⟩ = some (.int .i64 9) := fun W h => pw_cell_below h (blk_cell BV.out 1); clear BV; clear hA hb ho hs K6)
    | ((with_reducible refine gate_dst (N := 39) rfl ?_); refine lit_event ?hg (N := 39) ?hd (cs := #[.int .i64 35, .int .i64 0, .int .i64 0, .int .i64 0, .int .i64 0, .slice none 0 0, .slice none 0 0, .slice none 0 0]) (t := 106) (n := 1) ?hr ?_; (case hd => rfl); (case hg => rfl); (case hr => first | (go_simp; done) | (go_simp; rfl)); intro l39 hgl39 w15 hA hb; have L39 := Aside0.mk hA; have hy0 := hy; clear hy; have hy : Below w3.heap.size w3 w15 := below_step hy0 hb; clear hy0; have hz0 := hz; clear hz; have hz : Below wr6.heap.size wr6 w15 := below_step hz0 hb; clear hz0; clear hA hb hgl39)
    | (go_at_call 42; (with_reducible refine (leaf_value (a0 := 35) (a1 := 0) (a3 := 0) (v := 0) (b := 0) (e := 2000) L39.out (by decide +kernel)).mono ?_); rintro e w16 ⟨rfl, hb⟩; have hy0 := hy; clear hy; have hy : Below w3.heap.size w3 w16 := below_step hy0 hb; clear hy0; have hz0 := hz; clear hz; have hz : Below wr6.heap.size wr6 w16 := below_step hz0 hb; clear hz0; clear hb L39)
    | ((with_reducible refine gate_dst (N := 8) rfl ?_); refine box_event ?hg (N := 8) ?hd (cs := #[.int .i64 0, .int .i64 0]) (t := 56) ?hr ?_; (case hd => rfl); (case hg => rfl); (case hr => first | (go_simp; done) | (go_simp; rfl)); intro g8 hgg8 w17 hA hb; have G8 := Aside0.mk (show w3.heap.size ≤ g8 by rw [hgg8]; exact hy.size); have Z8 := Aside0.mk (show wr6.heap.size ≤ g8 by rw [hgg8]; exact hz.size); have K8 := Aside0.mk hA; have hy0 := hy; clear hy; have hy : Below w3.heap.size w3 w17 := below_step hy0 hb; clear hy0; have hz0 := hz; clear hz; have hz : Below wr6.heap.size wr6 w17 := below_step hz0 hb; clear hz0; clear hA hb hgg8)
    | ((with_reducible refine gate_store (p := 8) rfl ?_); refine storeRow_event (g := g8) rfl rfl rfl (cs := #[.int .i64 0, .int .i64 0]) rfl rfl K8.out (by kernel_rfl) rfl (by simp [Value.oneCell']) ?_; intro wr8 hA hb ho hs; have hy0 := hy; clear hy; have hy : Below w3.heap.size w3 wr8 := hb _ _ G8.out hy0; clear hy0; have hz0 := hz; clear hz; have hz : Below wr6.heap.size wr6 wr8 := hb _ _ Z8.out hz0; clear hz0; clear hA hb ho hs K8)
    | (go_at_call 20; (with_reducible refine (num_calls _ _).mono ?_); rintro e wz ⟨rfl, hb⟩; have hy0 := hy; clear hy; have hy : Below w3.heap.size w3 wz := below_step hy0 hb; clear hy0; have hz0 := hz; clear hz; have hz : Below wr6.heap.size wr6 wz := below_step hz0 hb; clear hz0; clear hb))
  go_ret
  exact ⟨rfl, below_step HB3.out hy⟩
end Go.Proofs.Ytmofdpkddimmlaa.EInstr
