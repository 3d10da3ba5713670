/-
  ftype.place, ftype.Global.
-/
import Derived.Test.YtmofdpkddimmlaaEFty1
import Derived.Deep.QuietTactic
import Derived.BigQuiet
import Derived.StillTailTactics
namespace Go.Proofs.Ytmofdpkddimmlaa.EFty
open Go Go.RowKit Go.Proofs.Ytmofdpkddimmlaa.F Go.Proofs.YtmofdpkddimmlaaW.Hand Go.Proofs.YtmofdpkddimmlaaW.PrintWords Go.Proofs.YtmofdpkddimmlaaW.PrintLast Go.Proofs.YtmofdpkddimmlaaW.PrintMore
attribute [local go_sem] Oper.semAt_some
set_option linter.unusedVariables false
set_option linter.unusedSimpArgs false
theorem upTo_get (imps : List S90) (K : Int) : ∀ (n i : Nat) (x : Im imps K), (upTo imps K n)[i]? = some x → cnt imps K x.1 = i
  | 0, i, x, h => by simp [upTo] at h
  | n + 1, i, x, h => by
    unfold upTo at h
    split at h
    · rcases Nat.lt_or_ge i (upTo imps K n).length with hi | hi
      · rw [List.getElem?_append_left hi] at h
        exact upTo_get imps K n i x h
      · rw [List.getElem?_append_right hi] at h
        have h0 : i - (upTo imps K n).length = 0 := by
          rcases Nat.lt_or_ge (i - (upTo imps K n).length) 1 with h1 | h1
          · omega
          · rw [List.getElem?_eq_none (by simpa using h1)] at h; cases h
        rw [h0] at h
        simp at h
        subst h
        unfold cnt
        dsimp only
        omega
    · exact upTo_get imps K n i x h
theorem upTo_prefix (imps : List S90) (K : Int) : ∀ (n m : Nat), n ≤ m → upTo imps K n <+: upTo imps K m
  | n, 0, h => by obtain rfl : n = 0 := by omega
                  exact List.prefix_refl _
  | n, m + 1, h => by
    by_cases e : n = m + 1
    · subst e; exact List.prefix_refl _
    · refine (upTo_prefix imps K n m (by omega)).trans ?_
      show upTo imps K m <+: (if h : m < imps.length ∧ (rd_T90 imps (m : Int)).f2 = K then upTo imps K m ++ [⟨m, h⟩] else upTo imps K m)
      split
      · exact List.prefix_append _ _
      · exact List.prefix_refl _
/-- The box behind the rounds: where the last one stood, and one. -/
def nval {imps : List S90} {K : Int} (pre : List (Im imps K)) : Int := match pre.getLast? with
  | none => 0
  | some x => (cnt imps K x.1 : Int) + 1
theorem nval_snoc {imps : List S90} {K : Int} (pre : List (Im imps K)) (x : Im imps K) : nval (pre ++ [x]) = (cnt imps K x.1 : Int) + 1 := by simp [nval]
theorem nval_upTo (imps : List S90) (K : Int) : ∀ n, nval (upTo imps K n) = (cnt imps K n : Int)
  | 0 => rfl
  | n + 1 => by
    unfold cnt
    unfold upTo
    split
    · rw [nval_snoc]
      unfold cnt
      simp
    · exact nval_upTo imps K n
/-- The k-th import of a kind. -/
def nth (imps : List S90) (K k : Int) : S90 := match (upTo imps K imps.length)[k.toNat]? with
  | some x => rd_T90 imps (x.1 : Int)
  | none => z90
theorem nth_at {imps : List S90} {K k : Int} {j : Nat} (hj : j < imps.length) (hx : (rd_T90 imps (j : Int)).f2 = K) (hc : (cnt imps K j : Int) = k) : (0 ≤ k ∧ k < (cnt imps K imps.length : Int)) ∧ nth imps K k = rd_T90 imps (j : Int) := by
  have eS : upTo imps K (j + 1) = upTo imps K j ++ [⟨j, hj, hx⟩] := dif_pos ⟨hj, hx⟩
  obtain ⟨t, ht⟩ := upTo_prefix imps K (j + 1) imps.length (by omega)
  have hl : cnt imps K imps.length = cnt imps K j + 1 + t.length := by
    unfold cnt
    rw [← ht, eS]
    simp
    omega
  have hg : (upTo imps K imps.length)[cnt imps K j]? = some ⟨j, hj, hx⟩ := by
    rw [← ht, eS, List.append_assoc]
    unfold cnt
    rw [List.getElem?_append_right (Nat.le_refl _)]
    simp
  subst hc
  refine ⟨⟨by omega, by omega⟩, ?_⟩
  unfold nth
  rw [Int.toNat_natCast, hg]
theorem none_at {imps : List S90} {K k : Int} (h : ∀ x ∈ upTo imps K imps.length, (cnt imps K x.1 : Int) ≠ k) : ¬ (0 ≤ k ∧ k < (cnt imps K imps.length : Int)) := by
  rintro ⟨h0, h1⟩
  have hlt : k.toNat < (upTo imps K imps.length).length := by unfold cnt at h1; omega
  have hg := List.getElem?_eq_getElem hlt
  have := upTo_get imps K _ _ _ hg
  exact h _ (List.getElem_mem hlt) (by omega)
/-- What ftype.place answers. -/
def placeOf (imps : List S90) (fs : List Int) (k : Int) : Int :=
  if 0 ≤ k ∧ k < (cnt imps 0 imps.length : Int) then (nth imps 0 k).f3 else if k < (cnt imps 0 imps.length : Int) ∨ k - (cnt imps 0 imps.length : Int) ≥ fs.length then -1 else fs.getD (k - (cnt imps 0 imps.length : Int)).toNat 0
theorem cell_set_far {W : World} {a b : Addr} {v x : Value} (h : W.cell? a = some v) (hn : a.block ≠ b.block) : (W.setCell b x).cell? a = some v := by
  unfold World.cell? at h ⊢
  rwa [Below.heap_setCell W b x a.block hn]
set_option maxRecDepth 100000 in
set_option maxHeartbeats 8000000 in
theorem place_calls (w : World) (g : Nat) (imps : List S90) (fs : List Int) (k : Int) (A Af : Option Addr) (c cf : Nat) (hlen : imps.length ≤ 140737488351232) (hfl : fs.length ≤ 140737488351232) (hk1 : k < 9223372036854775808) (hg : g < w.heap.size) (hi : w.cell? ⟨g, 1, none⟩ = some (.slice A imps.length c)) (hI : k90.C w A imps.length imps)
    (hf : w.cell? ⟨g, 2, none⟩ = some (.slice Af fs.length cf)) (hF : (Kd.int .i64).C w Af fs.length fs) :
    Calls Try.prog 51 #[.pointer (some ⟨g, 0, none⟩), .int .i64 k] w fun e w' => e = .returned (.int .i64 (placeOf imps fs k)) ∧ Below w.heap.size w w' := by
  refine (callsIn_wide (n := 3)).1 ?_
  refine callsIn_of_wp_marks Try.func51 rfl trivial ?_ rfl
  simp only [Try.ntmps51, List.size_toArray, List.length_cons, List.length_nil, Nat.reduceAdd, Nat.reduceSub, Array.replicate_succ, Array.replicate_zero, List.push_toArray, List.append_toArray, List.nil_append, List.cons_append]
  have HI := Aside0.mk hi
  have HC := Aside0.mk hI
  have HF := Aside0.mk hf
  have HFC := Aside0.mk hF
  have HK1 := Aside0.mk hk1
  clear hi hI hf hF hk1
  gi_wp2_with (refine ⟨trivial, ?_⟩; gi_at_call 54; refine (imports_in Fence.wide 2 trivial rfl _ _ _).mono ?_; rintro e w' ⟨rfl, rfl⟩)
  have c0 := cell_new_l w (.int .i64 k) 3
  have c1 := cell_new_l (w.alloc (.cells #[.int .i64 k] 3)) (.int .i64 0) 3
  have c2 := cell_new_l ((w.alloc (.cells #[.int .i64 k] 3)).alloc (.cells #[.int .i64 0] 3)) (.int .i64 0) 3
  have c3 := cell_new_l (((w.alloc (.cells #[.int .i64 k] 3)).alloc (.cells #[.int .i64 0] 3)).alloc (.cells #[.int .i64 0] 3)) (.pointer (some ⟨g, 0, none⟩)) 119
  have c4 := cell_new_l ((((w.alloc (.cells #[.int .i64 k] 3)).alloc (.cells #[.int .i64 0] 3)).alloc (.cells #[.int .i64 0] 3)).alloc (.cells #[.pointer (some ⟨g, 0, none⟩)] 119)) (.int .i64 0) 3
  simp only [World.size_alloc] at c1 c2 c3 c4
  have k0 := (cell_alloc_l (.cells #[.int .i64 0] 3) (cell_alloc_l (.cells #[.pointer (some ⟨g, 0, none⟩)] 119) (cell_alloc_l (.cells #[.int .i64 0] 3) (cell_alloc_l (.cells #[.int .i64 0] 3) c0.1))))
  have q0 := (frozen_alloc_l (.cells #[.int .i64 0] 3) (cell_alloc_l (.cells #[.pointer (some ⟨g, 0, none⟩)] 119) (cell_alloc_l (.cells #[.int .i64 0] 3) (cell_alloc_l (.cells #[.int .i64 0] 3) c0.1))) (frozen_alloc_l (.cells #[.pointer (some ⟨g, 0, none⟩)] 119) (cell_alloc_l (.cells #[.int .i64 0] 3) (cell_alloc_l (.cells #[.int .i64 0] 3) c0.1)) (frozen_alloc_l (.cells #[.int .i64 0] 3) (cell_alloc_l (.cells #[.int .i64 0] 3) c0.1) (frozen_alloc_l (.cells #[.int .i64 0] 3) c0.1 c0.2))))
  have k1 := (cell_alloc_l (.cells #[.int .i64 0] 3) (cell_alloc_l (.cells #[.pointer (some ⟨g, 0, none⟩)] 119) (cell_alloc_l (.cells #[.int .i64 0] 3) c1.1)))
  have q1 := (frozen_alloc_l (.cells #[.int .i64 0] 3) (cell_alloc_l (.cells #[.pointer (some ⟨g, 0, none⟩)] 119) (cell_alloc_l (.cells #[.int .i64 0] 3) c1.1)) (frozen_alloc_l (.cells #[.pointer (some ⟨g, 0, none⟩)] 119) (cell_alloc_l (.cells #[.int .i64 0] 3) c1.1) (frozen_alloc_l (.cells #[.int .i64 0] 3) c1.1 c1.2)))
  have k2 := (cell_alloc_l (.cells #[.int .i64 0] 3) (cell_alloc_l (.cells #[.pointer (some ⟨g, 0, none⟩)] 119) c2.1))
  have q2 := (frozen_alloc_l (.cells #[.int .i64 0] 3) (cell_alloc_l (.cells #[.pointer (some ⟨g, 0, none⟩)] 119) c2.1) (frozen_alloc_l (.cells #[.pointer (some ⟨g, 0, none⟩)] 119) c2.1 c2.2))
  have k3 := (cell_alloc_l (.cells #[.int .i64 0] 3) c3.1)
  have q3 := (frozen_alloc_l (.cells #[.int .i64 0] 3) c3.1 c3.2)
  have k4 := c4.1
  have q4 := c4.2
  have hB0 : Below w.heap.size w (((((w.alloc (.cells #[.int .i64 k] 3)).alloc (.cells #[.int .i64 0] 3)).alloc (.cells #[.int .i64 0] 3)).alloc (.cells #[.pointer (some ⟨g, 0, none⟩)] 119)).alloc (.cells #[.int .i64 0] 3)) := ((((((Below.refl _ w).alloc (by simp <;> omega) _).alloc (by simp <;> omega) _).alloc (by simp <;> omega) _).alloc (by simp <;> omega) _).alloc (by simp <;> omega) _)
  have hsz : (((((w.alloc (.cells #[.int .i64 k] 3)).alloc (.cells #[.int .i64 0] 3)).alloc (.cells #[.int .i64 0] 3)).alloc (.cells #[.pointer (some ⟨g, 0, none⟩)] 119)).alloc (.cells #[.int .i64 0] 3)).heap.size = w.heap.size + 5 := by simp [World.size_alloc]
  clear c0 c1 c2 c3 c4
  refine wpIn_rangeFunc_ownF rfl (by omega) (gf := 72) (lb := #[.pointer (some ⟨w.heap.size + 1 + 1 + 1, 0, none⟩), .pointer (some ⟨w.heap.size + 1 + 1 + 1 + 1, 0, none⟩)]) rfl trivial (enters_of Try.func72 (by kernel_rfl) rfl)
    (imports_stops Fence.wide 2 trivial rfl (by omega) w _ (w.heap.size + 1 + 1 + 1) (w.heap.size + 1 + 1 + 1 + 1) g imps 0 A c hlen hB0 hg HI.out HC.out (by rw [hsz]; omega) (by rw [hsz]; omega) k3 k4) (fun h k => kpI_t h k) (kpI_b (by rw [hsz]; omega) (by rw [hsz]; omega) (by rw [hsz]; omega)) (Below.refl _ _) (fun _ => rfl)
    (fun pre W => ((∀ y ∈ pre, (cnt imps 0 y.1 : Int) ≠ k) ∧ W.cell? ⟨w.heap.size, 0, none⟩ = some (.int .i64 k) ∧ W.cell? ⟨w.heap.size + 1, 0, none⟩ = some (.int .i64 0) ∧ W.frozen? ⟨w.heap.size + 1, 0, none⟩ = false ∧ W.cell? ⟨w.heap.size + 1 + 1, 0, none⟩ = some (.int .i64 (nval pre)) ∧ W.frozen? ⟨w.heap.size + 1 + 1, 0, none⟩ = false) ∧ Below w.heap.size w W)
    (fun cd pre W => (cd = .ret ∧ (∃ pre0 x, pre = pre0 ++ [x] ∧ (cnt imps 0 x.1 : Int) = k ∧ W.cell? ⟨w.heap.size + 1, 0, none⟩ = some (.int .i64 (rd_T90 imps (x.1 : Int)).f3))) ∧ Below w.heap.size w W)
    (OwnFrom.and (Own.from (fun s A B row hs hg hr => ⟨hs.1, cell_kept hs.2.1 hg hr, cell_kept hs.2.2.1 hg hr, (frozen_kept hs.2.2.1 hg hr).trans hs.2.2.2.1, cell_kept hs.2.2.2.2.1 hg hr, (frozen_kept hs.2.2.2.2.1 hg hr).trans hs.2.2.2.2.2⟩) _) (ownFrom_below (Nat.le_refl _) (by rw [hsz]; omega)))
    (fun cd => OwnFrom.and (Own.from (fun s A B row hs hg hr => ⟨hs.1, by obtain ⟨p0, x, e1, e2, e3⟩ := hs.2; exact ⟨p0, x, e1, e2, cell_kept e3 hg hr⟩⟩) _) (ownFrom_below (Nat.le_refl _) (by rw [hsz]; omega)))
    ⟨⟨by simp, k0, k1, q1, k2, q2⟩, hB0⟩
    (fun x => { tmps := #[.pointer (some ⟨g, 0, none⟩), .int .i64 k, undef, .pointer (some ⟨w.heap.size, 0, none⟩), .pointer (some ⟨w.heap.size + 1, 0, none⟩), .pointer (some ⟨w.heap.size + 1 + 1, 0, none⟩), .int .i64 (cnt imps 0 x.1 : Int), .pointer (some ((A.getD ⟨0, 0, none⟩).add (x.1 * 7))), .pointer (some ⟨g, 0, none⟩), .func (.func 72) #[] #[.pointer (some ⟨w.heap.size + 1 + 1 + 1, 0, none⟩), .pointer (some ⟨w.heap.size + 1 + 1 + 1 + 1, 0, none⟩)], .int .i64 (cnt imps 0 x.1 : Int), .pointer (some ((A.getD ⟨0, 0, none⟩).add (x.1 * 7))), undef, undef, undef, undef, undef, undef, undef, undef, undef, undef, undef, undef, undef, undef, undef, undef, undef, undef, undef, undef, undef, undef, undef, undef, undef, undef, undef, undef, undef, undef, undef, undef], defers := [] }) ?assign ?body ?done ?stop
  case assign =>
    intro l x W Kc hKc
    simp only [encI]
    gi_wp2
    simpa [encI] using hKc
  case body =>
    rintro l pre x W ⟨⟨hne, hck, hcr, hfr, hcn, hfn⟩, hB⟩ hpl
    obtain ⟨xv, xlt, xk⟩ := x
    obtain ⟨ad, e, _, _, _, z3, _⟩ := at_T90 HC.out (xv : Int) (by omega) (by omega)
    subst e
    have zt : W.cell? ⟨(ad.add (xv * 7)).block, (ad.add (xv * 7)).off + 3, none⟩ = some (.int .i64 (rd_T90 imps (xv : Int)).f3) := by
      have := pw_cell_below hB z3
      simpa using this
    have bc := cnt_le imps 0 xv
    have b1 : cnt imps 0 xv ≤ 140737488351232 := by omega
    have NE := Aside0.mk hne
    have XLT := Aside0.mk xlt
    clear hlen hpl hsz hB0 k0 k1 k2 k3 k4 q0 q1 q2 q3 q4 z3 hne bc
    by_cases hx : (cnt imps 0 xv : Int) = k
    · have dx : ((cnt imps 0 xv : Int) == k) = true := beq_iff_eq.mpr hx
      gi_wp2
      exact ⟨KeepsOthers.setCell _ _ _, ⟨rfl, pre, ⟨xv, xlt, xk⟩, rfl, hx, World.cell?_setCell_same' _ _ _ (by rw [hcr]; rfl)⟩, hB.setCell (p := ⟨w.heap.size + 1, 0, none⟩) (by simp) _⟩
    · have dx : ((cnt imps 0 xv : Int) == k) = false := beq_eq_false_iff_ne.mpr hx
      gi_wp2
      exact ⟨KeepsOthers.setCell _ _ _, ⟨(Below.refl w.heap.size W).setCell (p := ⟨w.heap.size + 1 + 1, 0, none⟩) (by simp; omega) _, Below.heap_setCell W ⟨w.heap.size + 1 + 1, 0, none⟩ _ _ (by simp), Below.heap_setCell W ⟨w.heap.size + 1 + 1, 0, none⟩ _ _ (by simp; omega)⟩,
        ⟨fun y hy => (List.mem_append.1 hy).elim (NE.out y) (fun h => by
          obtain rfl : y = ⟨xv, xlt, xk⟩ := by simpa using h
          exact hx), cell_set_far hck (by simp; omega), cell_set_far hcr (by simp), by rw [World.frozen?_setCell]; exact hfr, by rw [World.cell?_setCell_same' _ _ _ (by rw [hcn]; rfl), nval_snoc], by rw [World.frozen?_setCell]; exact hfn⟩, hB.setCell (p := ⟨w.heap.size + 1 + 1, 0, none⟩) (by simp; omega) _⟩
  case done =>
    rintro D ys W hD rfl ⟨⟨hne, hck, hcr, hfr, hcn, hfn⟩, hB⟩ hK
    have hnone := none_at hne
    rw [nval_upTo] at hcn
    have bN := cnt_le imps 0 imps.length
    obtain ⟨N, hN⟩ : ∃ N, cnt imps 0 imps.length = N := ⟨_, rfl⟩
    rw [hN] at hnone hcn bN
    have zf : W.cell? ⟨g, 2, none⟩ = some (.slice Af fs.length cf) := (hB.cell (p := ⟨g, 2, none⟩) hg).trans HF.out
    rw [hsz] at hD
    have fin : ∀ (W1 : World) (v : Int), W1.heap[D]? = some (.deferred (some [])) → Below w.heap.size w W1 → W1.cell? ⟨w.heap.size + 1, 0, none⟩ = some (.int .i64 v) → v = placeOf imps fs k →
        ∃ v', (W1.putObj D (.deferred none)).cell? ⟨w.heap.size + 1, 0, none⟩ = some v' ∧ v' = .int .i64 (placeOf imps fs k) ∧ Below w.heap.size w (W1.putObj D (.deferred none)) := fun W1 v h1 h2 h3 h4 =>
      ⟨_, cell_kept h3 (grownBy_putObj' _ D (.deferred none)) (fun r e => by cases e; exact ⟨_, h1, rfl⟩), by rw [h4], h2.trans (belowK_b (w := w) (Nat.le_refl _) W1 D _ _ (by omega) h1 rfl rfl)⟩
    clear hD hne hsz hB0 k0 k1 k2 k3 k4 q0 q1 q2 q3 q4
    by_cases h1 : k < (N : Int)
    · have d1 : decide (k < (N : Int)) = true := decide_eq_true h1
      have hpl : placeOf imps fs k = -1 := by unfold placeOf; rw [hN, if_neg hnone, if_pos (.inl h1)]
      gi_wp2
      refine wpIn_wide.2 ?_
      go_quiet (fail)
      all_goals
        gi_wp2
        have hK2 := (KeepsOthers.setCell (W.drewN nq) ⟨w.heap.size + 1, 0, none⟩ (.int .i64 (-1))).same D _ hK rfl
        refine ⟨by simp, .inl ⟨_, _, rfl, run_takeDeferred hK2, ?_⟩⟩
        obtain ⟨v', e1, rfl, e3⟩ := fin _ (-1) hK2 ((pw_below_drewN hB nq).setCell (p := ⟨w.heap.size + 1, 0, none⟩) (by simp) _) (World.cell?_setCell_same' _ _ _ (by rw [show (W.drewN nq).cell? _ = _ from hcr]; rfl)) hpl.symm
        exact ⟨_, by simp [results, Try.f51, go_sem, e1], rfl, e3⟩
    · have d1 : decide (k < (N : Int)) = false := decide_eq_false h1
      have b0 : (N : Int) ≤ k := by omega
      have b2 : k ≤ 9223372036854775807 := by have := HK1.out; omega
      have b3 : 0 ≤ k - (N : Int) := by omega
      have bw : wrap64 (k - (N : Int)) = k - (N : Int) := by unfold wrap64; omega
      have bw2 : IntKind.i64.wrap (k - (N : Int)) = k - (N : Int) := (i64_w _).trans bw
      by_cases h2 : k - (N : Int) ≥ fs.length
      · have d2 : decide ((fs.length : Int) ≤ k - (N : Int)) = true := decide_eq_true h2
        have hpl : placeOf imps fs k = -1 := by unfold placeOf; rw [hN, if_neg hnone, if_pos (.inr h2)]
        gi_wp2
        refine wpIn_wide.2 ?_
        go_quiet (fail)
        all_goals
          gi_wp2
          have hK2 := (KeepsOthers.setCell (W.drewN nq) ⟨w.heap.size + 1, 0, none⟩ (.int .i64 (-1))).same D _ hK rfl
          refine ⟨by simp, .inl ⟨_, _, rfl, run_takeDeferred hK2, ?_⟩⟩
          obtain ⟨v', e1, rfl, e3⟩ := fin _ (-1) hK2 ((pw_below_drewN hB nq).setCell (p := ⟨w.heap.size + 1, 0, none⟩) (by simp) _) (World.cell?_setCell_same' _ _ _ (by rw [show (W.drewN nq).cell? _ = _ from hcr]; rfl)) hpl.symm
          exact ⟨_, by simp [results, Try.f51, go_sem, e1], rfl, e3⟩
      · have d2 : decide ((fs.length : Int) ≤ k - (N : Int)) = false := decide_eq_false h2
        have hpl : placeOf imps fs k = fs.getD (k - (N : Int)).toNat 0 := by unfold placeOf; rw [hN, if_neg hnone, if_neg (by omega)]
        obtain ⟨af, cc, e, _, hKc, hcc⟩ := Kd.C_get HFC.out (0 : Int) (k - (N : Int)) b3 (by omega)
        subst e
        obtain rfl : cc = [.int .i64 (fs.getD (k - (N : Int)).toNat 0)] := hKc
        have ze : W.cell? (af.add (k - (N : Int)).toNat) = some (.int .i64 (fs.getD (k - (N : Int)).toNat 0)) := by
          have := pw_cell_below hB (hcc 0 _ rfl)
          simpa [show (Kd.int .i64).sz = 1 from rfl] using this
        have b4 : k - (N : Int) < fs.length := by omega
        obtain ⟨V, hV⟩ : ∃ V, fs.getD (k - (N : Int)).toNat 0 = V := ⟨_, rfl⟩
        rw [hV] at ze hpl
        clear hcc hV
        gi_wp2
        refine wpIn_wide.2 ?_
        go_quiet (fail)
        have hB2 : Below w.heap.size w (W.drewN nq) := pw_below_drewN hB nq
        have y0 : (W.drewN nq).cell? ⟨w.heap.size, 0, none⟩ = some (.int .i64 k) := hck
        have y1 : (W.drewN nq).cell? ⟨w.heap.size + 1, 0, none⟩ = some (.int .i64 0) := hcr
        have y2 : (W.drewN nq).frozen? ⟨w.heap.size + 1, 0, none⟩ = false := hfr
        have y3 : (W.drewN nq).cell? ⟨w.heap.size + 1 + 1, 0, none⟩ = some (.int .i64 N) := hcn
        have y4 : (W.drewN nq).cell? ⟨g, 2, none⟩ = some (.slice (some af) fs.length cf) := zf
        have y5 : (W.drewN nq).cell? (af.add (k.toNat - N)) = some (.int .i64 V) := by rw [show k.toNat - N = (k - (N : Int)).toNat by omega]; exact ze
        have y6 : (W.drewN nq).heap[D]? = some (.deferred (some [])) := hK
        clear hB hck hcr hfr hcn hfn zf ze hK
        generalize W.drewN nq = Wd at hB2 y0 y1 y2 y3 y4 y5 y6 ⊢
        gi_wp2
        refine wpIn_wide.2 ?_
        go_still_tail 9, (by kernel_rfl)
        go_wp2
        gi_wp2
        have hK2 : ((Wd.setCell ⟨w.heap.size + 1, 0, none⟩ (.int .i64 V)).drew).heap[D]? = some (.deferred (some [])) := (KeepsOthers.setCell Wd ⟨w.heap.size + 1, 0, none⟩ (.int .i64 V)).same D _ y6 rfl
        refine ⟨by simp, .inl ⟨_, _, rfl, run_takeDeferred hK2, ?_⟩⟩
        obtain ⟨v', e1, rfl, e3⟩ := fin _ V hK2 ((hB2.setCell (p := ⟨w.heap.size + 1, 0, none⟩) (by simp) _).drew) (World.cell?_setCell_same' Wd ⟨w.heap.size + 1, 0, none⟩ _ (by rw [y1]; rfl)) hpl.symm
        exact ⟨_, by simp [results, Try.f51, go_sem, e1], rfl, e3⟩
  case stop =>
    rintro D cd pre W hD ⟨j, hj, rfl, hjk⟩ ⟨⟨rfl, p0, x, e1, e2, e3⟩, hB⟩ hK
    have eS : upTo imps 0 (j + 1) = upTo imps 0 j ++ [⟨j, hj, hjk⟩] := dif_pos ⟨hj, hjk⟩
    rw [eS] at e1
    obtain ⟨_, e4⟩ := List.append_inj' e1 rfl
    obtain rfl : x = ⟨j, hj, hjk⟩ := by simpa using e4.symm
    obtain ⟨hn1, hn2⟩ := nth_at hj hjk e2
    rw [hsz] at hD
    gi_wp2
    refine ⟨by simp, .inl ⟨_, _, rfl, run_takeDeferred hK, ?_⟩⟩
    have hc5 := cell_kept e3 (grownBy_putObj' _ D (.deferred none)) (fun r e => by cases e; exact ⟨_, hK, rfl⟩)
    refine ⟨.int .i64 (rd_T90 imps (j : Int)).f3, ?_, by unfold placeOf; rw [if_pos hn1, hn2], hB.trans (belowK_b (w := w) (Nat.le_refl _) W D _ _ (by omega) hK rfl rfl)⟩
    simp [results, Try.f51, go_sem, hc5]
end Go.Proofs.Ytmofdpkddimmlaa.EFty
