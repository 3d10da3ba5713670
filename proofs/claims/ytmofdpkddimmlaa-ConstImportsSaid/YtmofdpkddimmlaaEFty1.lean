/-
  ftype.Imports: the iterator's contract; Many.
-/
import Derived.RangeFuncFrom
import Derived.RangeFuncBound
import Derived.RangeFuncCalls
import Derived.RangeFuncLeaves
import Derived.RangeFuncBox
import Derived.Shelf.Abstract
import Derived.OwnWalkIn
import Derived.TacticsInMore
import Derived.LoopNIn
import Derived.LoopIn
import Derived.RegionIn
import Derived.Test.YtmofdpkddimmlaaFx0
import Derived.Test.YtmofdpkddimmlaaWFr
namespace Go.Proofs.Ytmofdpkddimmlaa.EFty
open Go Go.RowKit Go.Proofs.Ytmofdpkddimmlaa.F Go.Proofs.YtmofdpkddimmlaaW.Hand Go.Proofs.YtmofdpkddimmlaaW.PrintWords Go.Proofs.YtmofdpkddimmlaaW.PrintLast Go.Proofs.YtmofdpkddimmlaaW.PrintMore
attribute [local go_sem] Oper.semAt_some
set_option linter.unusedVariables false
set_option linter.unusedSimpArgs false
theorem cell_new_l (W : World) (v : Value) (t : TypeId) : (W.alloc (.cells #[v] t)).cell? ⟨W.heap.size, 0, none⟩ = some v ∧ (W.alloc (.cells #[v] t)).frozen? ⟨W.heap.size, 0, none⟩ = false := ⟨blk_cell (blk_new W _) 0, blk_frozen (blk_new W _) 0⟩
theorem cell_alloc_l {W : World} {a : Addr} {v : Value} (o : Obj) (h : W.cell? a = some v) : (W.alloc o).cell? a = some v := cell_kept h (World.grownBy_alloc W o none) (fun r e => by cases e)
theorem frozen_alloc_l {W : World} {a : Addr} {v : Value} (o : Obj) (h : W.cell? a = some v) (hf : W.frozen? a = false) : (W.alloc o).frozen? a = false := (frozen_kept h (World.grownBy_alloc W o none) (fun r e => by cases e)).trans hf
/-- What a round keeps: all that lay below B, and the iterator's two boxes. -/
def KpI (B Bm Bk : Nat) (W W' : World) : Prop := Below B W W' ∧ W'.heap[Bm]? = W.heap[Bm]? ∧ W'.heap[Bk]? = W.heap[Bk]?
theorem kpI_t {B Bm Bk : Nat} {X Y Z : World} (h : KpI B Bm Bk X Y) (k : KpI B Bm Bk Y Z) : KpI B Bm Bk X Z := ⟨h.1.trans k.1, k.2.1.trans h.2.1, k.2.2.trans h.2.2⟩
theorem kpI_b {B Bm Bk : Nat} {w : World} (h1 : B ≤ w.heap.size) (h2 : Bm < w.heap.size) (h3 : Bk < w.heap.size) (W : World) (l : Nat) (o o' : Obj) (hl : w.heap.size ≤ l) (h : W.heap[l]? = some o) (ho : o.isCells = false) (hw : o.isWalk = false) : KpI B Bm Bk W (W.putObj l o') :=
  ⟨belowK_b h1 W l o o' hl h ho hw, World.putObj_heap_other (by omega), World.putObj_heap_other (by omega)⟩
theorem kpI_refl (B Bm Bk : Nat) (W : World) : KpI B Bm Bk W W := ⟨Below.refl _ _, rfl, rfl⟩
theorem kpI_drew {B Bm Bk : Nat} {X Y : World} (h : KpI B Bm Bk X Y) : KpI B Bm Bk X Y.drew := ⟨h.1.drew, h.2.1, h.2.2⟩
theorem kpI_cell {B Bm Bk : Nat} {X Y : World} (h : KpI B Bm Bk X Y) {b o : Nat} {v : Value} (hb : b = Bm ∨ b = Bk) (hc : X.cell? ⟨b, o, none⟩ = some v) : Y.cell? ⟨b, o, none⟩ = some v := by
  have e : Y.heap[b]? = X.heap[b]? := by
    rcases hb with rfl | rfl
    · exact h.2.1
    · exact h.2.2
  unfold World.cell? at hc ⊢
  rwa [e]
abbrev Im (imps : List S90) (K : Int) := { k : Nat // k < imps.length ∧ (rd_T90 imps (k : Int)).f2 = K }
/-- The places of the imports of a kind, ahead of place k. -/
def upTo (imps : List S90) (K : Int) : Nat → List (Im imps K)
  | 0 => []
  | k + 1 => if h : k < imps.length ∧ (rd_T90 imps (k : Int)).f2 = K then upTo imps K k ++ [⟨k, h⟩] else upTo imps K k
def cnt (imps : List S90) (K : Int) (k : Nat) : Nat := (upTo imps K k).length
theorem cnt_le (imps : List S90) (K : Int) : ∀ k, cnt imps K k ≤ k
  | 0 => Nat.le_refl _
  | k + 1 => by
    have := cnt_le imps K k
    unfold cnt at this ⊢
    unfold upTo
    split <;> simp <;> omega
def encI (imps : List S90) (K : Int) (ad : Addr) (x : Im imps K) : Array Value := #[.int .i64 (cnt imps K x.1 : Int), .pointer (some (ad.add (x.1 * 7)))]
set_option maxRecDepth 100000 in
set_option maxHeartbeats 4000000 in
theorem imports1_in (F : Fence) (n : Nat) (hF : F.fn 72) (hro : F.round = none) (hn : 1 ≤ n) (l B Bm Bk g : Nat) (imps : List S90) (K : Int) (A : Option Addr) (ad : Addr) (c : Nat) (hA : imps.length = 0 ∨ A = some ad) (hlen : imps.length ≤ 140737488351232) (J Jx : List (Im imps K) → World → Prop)
    (hY : ∀ pre x W, J pre W → pre.length < imps.length → YieldAt F (n - 1) Try.prog l (encI imps K ad x) W fun e W' =>
      (e = .returned (.bool true) ∧ J (pre ++ [x]) W' ∧ KpI B Bm Bk W W') ∨ (e = .returned (.bool false) ∧ Jx (pre ++ [x]) W'))
    (W0 W : World) (hB : B = W0.heap.size) (hW : Below B W0 W) (hg : g < B) (hm : W.cell? ⟨Bm, 0, none⟩ = some (.pointer (some ⟨g, 0, none⟩))) (hk : W.cell? ⟨Bk, 0, none⟩ = some (.int .i64 K))
    (hi : W0.cell? ⟨g, 1, none⟩ = some (.slice A imps.length c)) (hI : k90.C W0 A imps.length imps) (hJ : AbidesFrom W.heap.size J) (h0 : J [] W) :
    CallsIn F n Try.prog 72 #[.func (.yield l) #[] #[], .pointer (some ⟨Bm, 0, none⟩), .pointer (some ⟨Bk, 0, none⟩)] W fun e W' => (∃ v, e = .returned v) ∧
      ((∃ ys, ys = upTo imps K imps.length ∧ J ys W') ∨ (∃ pre, (∃ k, k < imps.length ∧ pre = upTo imps K (k + 1) ∧ (rd_T90 imps (k : Int)).f2 = K) ∧ Jx pre W')) := by
  have hi2 : W.cell? ⟨g, 1, none⟩ = some (.slice A imps.length c) := (hW.cell (p := ⟨g, 1, none⟩) hg).trans hi
  refine callsIn_of_wp Try.func72 rfl hF ?_ hro
  simp only [Try.ntmps72, List.size_toArray, List.length_cons, List.length_nil, Nat.reduceAdd, Nat.reduceSub, Array.replicate_succ, Array.replicate_zero, List.push_toArray, List.append_toArray, List.nil_append, List.cons_append]
  gi_wp2
  gi_loopw [4, 12] (fun v4 v12 wr => ∃ k : Nat, k ≤ imps.length ∧ v12 = .int .i64 k ∧ v4 = .int .i64 (cnt imps K k : Int) ∧ J (upTo imps K k) wr ∧ KpI B Bm Bk W wr)
    (fun _ i _ => imps.length - (intOf i).toNat)
  case atStart => exact ⟨0, Nat.zero_le _, rfl, rfl, h0, kpI_refl _ _ _ _⟩
  case round =>
    obtain ⟨k, hk2, rfl, rfl, hJs, hnx⟩ := hrel
    by_cases hlt : k < imps.length
    · obtain rfl : A = some ad := by
        rcases hA with h | h
        · omega
        · exact h
      obtain ⟨ad', e, _, _, z2, _⟩ := at_T90 hI (k : Int) (by omega) (by omega)
      obtain rfl := Option.some.inj e
      have hbx : Below B W0 wr := hW.trans hnx.1
      have zk : wr.cell? ⟨(ad.add (k * 7)).block, (ad.add (k * 7)).off + 2, none⟩ = some (.int .i64 (rd_T90 imps (k : Int)).f2) := by
        have := pw_cell_below (hB ▸ hbx) z2
        simpa using this
      have zm := kpI_cell hnx (.inl rfl) hm
      have zK := kpI_cell hnx (.inr rfl) hk
      have zg : wr.cell? ⟨g, 1, none⟩ = some (.slice (some ad) imps.length c) := (hbx.cell (p := ⟨g, 1, none⟩) hg).trans hi
      have HX := Aside0.mk hbx
      have HN := Aside0.mk hnx
      clear hi2 hi hm hk z2 hbx hnx hW hI
      by_cases hx : (rd_T90 imps (k : Int)).f2 = K
      · have dx : ((rd_T90 imps (k : Int)).f2 == K) = true := beq_iff_eq.mpr hx
        have hlk : (upTo imps K k).length < imps.length := Nat.lt_of_le_of_lt (cnt_le imps K k) hlt
        have bc := cnt_le imps K k
        have b2 : cnt imps K k ≤ 140737488351232 := by omega
        have b3 : k ≤ 140737488351232 := by omega
        have hJd : J (upTo imps K k) wr.drew := hJ _ _ _ none hJs ⟨rfl, rfl, rfl, Nat.le_refl _, fun _ _ _ => rfl⟩ (fun r e => by cases e)
        have eS : upTo imps K (k + 1) = upTo imps K k ++ [⟨k, hlt, hx⟩] := dif_pos ⟨hlt, hx⟩
        have eC : cnt imps K (k + 1) = cnt imps K k + 1 := by unfold cnt; rw [eS]; simp
        obtain ⟨fn, tmps, assign, body, hy, hR⟩ := hY _ ⟨k, hlt, hx⟩ wr.drew hJd hlk
        dsimp only [encI] at hy
        have ES := Aside0.mk eS
        have EC := Aside0.mk eC
        have HXX := Aside0.mk hx
        clear eS eC hJ hJs hJd hY
        gi_wp2
        gi_region
        all_goals
          gi_wp2
          refine hR.mono ?_
          rintro e W3 (⟨rfl, hJ3, hk3⟩ | ⟨rfl, hJx3⟩)
          · gi_wp2
            go_roundw
            case rel => exact ⟨k + 1, by omega, by simp, by rw [EC.out]; simp, by rw [ES.out]; exact hJ3, kpI_t (kpI_drew HN.out) hk3⟩
            case measure => simp [intOf]; omega
          · gi_wp2
            refine bodyPost_ret (results_none rfl _ _ _) rfl ?_
            exact ⟨⟨_, rfl⟩, .inr ⟨_, ⟨k, hlt, ES.out.symm, HXX.out⟩, hJx3⟩⟩
      · have dx : ((rd_T90 imps (k : Int)).f2 == K) = false := beq_eq_false_iff_ne.mpr hx
        have hJd : J (upTo imps K k) wr.drew := hJ _ _ _ none hJs ⟨rfl, rfl, rfl, Nat.le_refl _, fun _ _ _ => rfl⟩ (fun r e => by cases e)
        have ES := Aside0.mk (show upTo imps K (k + 1) = upTo imps K k from dif_neg (fun h => hx h.2))
        have EC := Aside0.mk (show cnt imps K (k + 1) = cnt imps K k by unfold cnt; rw [ES.out])
        clear hx hJ hJs hY
        gi_wp2
        gi_region
        all_goals
          gi_wp2
          go_roundw
          case rel => exact ⟨k + 1, by omega, by simp, by rw [EC.out], by rw [ES.out]; exact hJd, kpI_drew HN.out⟩
          case measure => simp [intOf]; omega
    · obtain rfl : k = imps.length := by omega
      gi_wp2
      go_end0
      exact ⟨⟨_, rfl⟩, .inl ⟨_, rfl, hJs⟩⟩
set_option maxHeartbeats 1000000 in
theorem imports_in (F : Fence) (n : Nat) (hF : F.fn 54) (hro : F.round = none) (p : Option Addr) (K : Int) (w : World) :
    CallsIn F n Try.prog 54 #[.pointer p, .int .i64 K] w fun e w' => e = .returned (.func (.func 72) #[] #[.pointer (some ⟨w.heap.size, 0, none⟩), .pointer (some ⟨w.heap.size + 1, 0, none⟩)]) ∧ w' = (w.alloc (.cells #[.pointer p] 119)).alloc (.cells #[.int .i64 K] 3) := by
  refine callsIn_of_wp Try.func54 rfl hF ?_ hro
  simp only [Try.ntmps54, List.size_toArray, List.length_cons, List.length_nil, Nat.reduceAdd, Nat.reduceSub, Array.replicate_succ, Array.replicate_zero, List.push_toArray, List.append_toArray, List.nil_append, List.cons_append]
  gi_wp2
  go_ret
  exact ⟨by simp, rfl⟩
/-- What the iterator yields: all imports of the kind, or those up to one of them. -/
theorem imports_stops (F : Fence) (n : Nat) (hF : F.fn 72) (hro : F.round = none) (hn : 1 ≤ n) (w0 w1 : World) (Bm Bk g : Nat) (imps : List S90) (K : Int) (A : Option Addr) (c : Nat) (hlen : imps.length ≤ 140737488351232) (h1 : Below w0.heap.size w0 w1) (hg : g < w0.heap.size)
    (hi : w0.cell? ⟨g, 1, none⟩ = some (.slice A imps.length c)) (hI : k90.C w0 A imps.length imps) (hbm : Bm < w1.heap.size) (hbk : Bk < w1.heap.size) (hm : w1.cell? ⟨Bm, 0, none⟩ = some (.pointer (some ⟨g, 0, none⟩))) (hk : w1.cell? ⟨Bk, 0, none⟩ = some (.int .i64 K)) :
    SeqStopsK F n Try.prog 72 #[.pointer (some ⟨Bm, 0, none⟩), .pointer (some ⟨Bk, 0, none⟩)] (encI imps K (A.getD ⟨0, 0, none⟩)) (KpI w0.heap.size Bm Bk) (fun xs => xs = upTo imps K imps.length)
      (fun pre => ∃ k, k < imps.length ∧ pre = upTo imps K (k + 1) ∧ (rd_T90 imps (k : Int)).f2 = K) imps.length w1 := fun l J Jx W hW hJ _ hY h0 =>
  imports1_in F n hF hro hn l w0.heap.size Bm Bk g imps K A (A.getD ⟨0, 0, none⟩) c (by
    by_cases h : imps.length = 0
    · exact .inl h
    · obtain ⟨ad, e, _⟩ := at_T90 hI 0 (by omega) (by omega)
      subst e
      exact .inr rfl) hlen J Jx hY w0 W rfl (below_step h1 hW) hg ((hW.cell (p := ⟨Bm, 0, none⟩) hbm).trans hm) ((hW.cell (p := ⟨Bk, 0, none⟩) hbk).trans hk) hi hI hJ h0
set_option maxRecDepth 100000 in
set_option maxHeartbeats 2000000 in
/-- ftype.Many: how many imports of a kind there are. -/
theorem many_calls (w : World) (g : Nat) (imps : List S90) (K : Int) (A : Option Addr) (c : Nat) (hlen : imps.length ≤ 140737488351232) (hg : g < w.heap.size) (hi : w.cell? ⟨g, 1, none⟩ = some (.slice A imps.length c)) (hI : k90.C w A imps.length imps) :
    Calls Try.prog 55 #[.pointer (some ⟨g, 0, none⟩), .int .i64 K] w fun e w' => e = .returned (.int .i64 (cnt imps K imps.length : Int)) ∧ Below w.heap.size w w' := by
  refine (callsIn_wide (n := 3)).1 ?_
  refine callsIn_of_wp_marks Try.func55 rfl trivial ?_ rfl
  simp only [Try.ntmps55, List.size_toArray, List.length_cons, List.length_nil, Nat.reduceAdd, Nat.reduceSub, Array.replicate_succ, Array.replicate_zero, List.push_toArray, List.append_toArray, List.nil_append, List.cons_append]
  have HI := Aside0.mk hi
  have HC := Aside0.mk hI
  clear hi hI
  gi_wp2_with (refine ⟨trivial, ?_⟩; gi_at_call 54; refine (imports_in Fence.wide 2 trivial rfl _ _ _).mono ?_; rintro e w' ⟨rfl, rfl⟩)
  have c0 := cell_new_l w (.int .i64 0) 3
  have c1 := cell_new_l (w.alloc (.cells #[.int .i64 0] 3)) (.pointer (some ⟨g, 0, none⟩)) 119
  have c2 := cell_new_l ((w.alloc (.cells #[.int .i64 0] 3)).alloc (.cells #[.pointer (some ⟨g, 0, none⟩)] 119)) (.int .i64 K) 3
  simp only [World.size_alloc] at c1 c2
  have hB0 : Below w.heap.size w (((w.alloc (.cells #[.int .i64 0] 3)).alloc (.cells #[.pointer (some ⟨g, 0, none⟩)] 119)).alloc (.cells #[.int .i64 K] 3)) := (((Below.refl _ w).alloc (Nat.le_refl _) _).alloc (by simp) _).alloc (by simp; omega) _
  refine wpIn_rangeFunc_ownF rfl (by omega) (gf := 72) (lb := #[.pointer (some ⟨w.heap.size + 1, 0, none⟩), .pointer (some ⟨w.heap.size + 1 + 1, 0, none⟩)]) rfl trivial (enters_of Try.func72 (by kernel_rfl) rfl)
    (imports_stops Fence.wide 2 trivial rfl (by omega) w _ (w.heap.size + 1) (w.heap.size + 1 + 1) g imps K A c hlen hB0 hg HI.out HC.out (by simp) (by simp) (cell_alloc_l _ c1.1) c2.1) (fun h k => kpI_t h k) (kpI_b (by simp; omega) (by simp) (by simp)) (Below.refl _ _) (fun _ => rfl)
    (fun pre W => (W.cell? ⟨w.heap.size, 0, none⟩ = some (.int .i64 (pre.length : Int)) ∧ W.frozen? ⟨w.heap.size, 0, none⟩ = false) ∧ Below w.heap.size w W)
    (fun _ _ _ => False)
    (OwnFrom.and (Own.from (fun s A B row hs hg hr => ⟨cell_kept hs.1 hg hr, (frozen_kept hs.1 hg hr).trans hs.2⟩) _) (ownFrom_below (Nat.le_refl _) (by simp; omega)))
    (fun _ _ _ _ _ hs _ _ => hs)
    ⟨⟨cell_alloc_l _ (cell_alloc_l _ c0.1), frozen_alloc_l _ (cell_alloc_l _ c0.1) (frozen_alloc_l _ c0.1 c0.2)⟩, hB0⟩
    (fun x => { tmps := #[.pointer (some ⟨g, 0, none⟩), .int .i64 K, undef, undef, .int .i64 0, .pointer (some ⟨w.heap.size, 0, none⟩), .pointer (some ⟨g, 0, none⟩), .int .i64 K, .func (.func 72) #[] #[.pointer (some ⟨w.heap.size + 1, 0, none⟩), .pointer (some ⟨w.heap.size + 1 + 1, 0, none⟩)], .int .i64 (cnt imps K x.1 : Int), .pointer (some ((A.getD ⟨0, 0, none⟩).add (x.1 * 7))), undef, undef, undef], defers := [] }) ?assign ?body ?done ?stop
  case assign =>
    intro l x W Kc hKc
    gi_wp2
    simpa [encI] using hKc
  case body =>
    rintro l pre x W ⟨⟨hc, hf⟩, hB⟩ hpl
    have b1 : pre.length ≤ 140737488351232 := by omega
    clear hlen hpl
    gi_wp2
    exact ⟨KeepsOthers.setCell _ _ _, ⟨(Below.refl w.heap.size W).setCell (p := ⟨w.heap.size, 0, none⟩) (Nat.le_refl _) _, Below.heap_setCell W ⟨w.heap.size, 0, none⟩ _ _ (by simp), Below.heap_setCell W ⟨w.heap.size, 0, none⟩ _ _ (by simp; omega)⟩, ⟨by rw [World.cell?_setCell_same' _ _ _ (by rw [hc]; rfl)]; simp, by rw [World.frozen?_setCell]; exact hf⟩, hB.setCell (p := ⟨w.heap.size, 0, none⟩) (Nat.le_refl _) _⟩
  case done =>
    rintro D ys W hD rfl ⟨⟨hc, _⟩, hB⟩ hK
    gi_wp2
    refine ⟨by simp, .inl ⟨_, _, rfl, run_takeDeferred hK, ?_⟩⟩
    exact ⟨_, results_tmp rfl _ _ _, rfl, hB.trans (belowK_b (w := w) (Nat.le_refl _) W D _ _ (by simp at hD; omega) hK rfl rfl)⟩
  case stop =>
    rintro D c pre W _ _ h _
    exact h.elim
end Go.Proofs.Ytmofdpkddimmlaa.EFty
