/-
  ConstImports: words of its loop.
-/
import Derived.Test.YtmofdpkddimmlaaEConN
namespace Go.Proofs.Ytmofdpkddimmlaa.EInstr
open Go Go.RowKit Go.Proofs.Ytmofdpkddimmlaa.F Go.Proofs.YtmofdpkddimmlaaW.Hand Go.Proofs.YtmofdpkddimmlaaW.PrintWords Go.Proofs.YtmofdpkddimmlaaW.PrintLast Go.Proofs.YtmofdpkddimmlaaW.PrintMore
open Go.Proofs.Ytmofdpkddimmlaa.EFty (cnt nth cnt_le upTo)
set_option linter.unusedVariables false
set_option linter.unusedSimpArgs false
theorem F_one {α : Type} {d : Kd α} {W : World} {g : Nat} {cs : List Value} {t : TypeId} {x : α} {ok : Nat → Prop} (h : W.heap[g]? = some (.cells cs.toArray t (0, 0))) (hg : ok g) (hk : Kd.FK d W ok x cs) : Kd.F d W ok (some ⟨g, 0, none⟩) 1 [x] := by
  intro W' hW
  refine ⟨rfl, by simp, fun _ => ⟨_, rfl, fun j p hp => ?_⟩⟩
  cases j with
  | zero =>
    obtain rfl : x = p := by simpa using hp
    have hK := hk W' hW
    refine ⟨cs, d.K_len hK, hK, fun i u hu => ?_⟩
    rw [add_plain, blk_cell ((hW g hg (blk_lt h)).trans h)]
    simpa using hu
  | succ j => simp at hp
def im (K T : Int) (M : Bool) : S90 := ⟨⟨#[]⟩, ⟨#[]⟩, K, T, M, ⟨0, 0⟩⟩
theorem FK_90 {W : World} {K T : Int} {M : Bool} {ok : Nat → Prop} : Kd.FK k90 W ok (im K T M) [.string ⟨#[]⟩, .string ⟨#[]⟩, .int .i64 K, .int .i64 T, .bool M, .int .i64 0, .int .i64 0] := fun W' _ => k90_mk W' _
theorem FK_i {W : World} {x : Int} {ok : Nat → Prop} : Kd.FK (Kd.int .i64) W ok x [.int .i64 x] := fun W' _ => rfl
theorem FK_b {W : World} {x : Bool} {ok : Nat → Prop} : Kd.FK Kd.bool W ok x [.bool x] := fun W' _ => rfl
theorem and3 (x : Int) : ∃ k, Go.bits .and .i64 x 3 = k ∧ 0 ≤ k ∧ k < 4 := by
  refine ⟨_, rfl, ?_⟩
  have e : Go.bits .and .i64 x 3 = IntKind.i64.wrap ((BitVec.ofInt 64 x &&& BitVec.ofInt 64 3).toNat : Int) := rfl
  rw [e, IntKind.wrap_i64]
  have h1 : (BitVec.ofInt 64 x &&& BitVec.ofInt 64 3).toNat ≤ 3 := by
    rw [BitVec.toNat_and]
    exact Nat.le_trans Nat.and_le_right (by decide)
  omega
theorem and15 (x : Int) : ∃ k : Nat, Go.bits .and .i64 x 15 = (k : Int) ∧ k < 16 := by
  have e : Go.bits .and .i64 x 15 = IntKind.i64.wrap ((BitVec.ofInt 64 x &&& BitVec.ofInt 64 15).toNat : Int) := rfl
  have h : (BitVec.ofInt 64 x &&& BitVec.ofInt 64 15).toNat ≤ 15 := by
    rw [BitVec.toNat_and]
    exact Nat.le_trans Nat.and_le_right (by decide)
  refine ⟨(BitVec.ofInt 64 x &&& BitVec.ofInt 64 15).toNat, ?_, by omega⟩
  rw [e, IntKind.wrap_i64]
  omega
theorem int_at {w : World} {A : Option Addr} {n : Nat} {xs : List Int} (h : (Kd.int .i64).C w A n xs) (i : Nat) (hi : i < n) : ∃ ad, A = some ad ∧ w.cell? (ad.add i) = some (.int .i64 (xs.getD i 0)) := by
  obtain ⟨ad, cc, e, _, hKc, hcc⟩ := Kd.C_get h (0 : Int) (i : Int) (by omega) (by omega)
  obtain rfl : cc = [.int .i64 (xs.getD i 0)] := hKc
  have := hcc 0 _ rfl
  exact ⟨ad, e, by simpa [show (Kd.int .i64).sz = 1 from rfl] using this⟩
theorem bool_at {w : World} {A : Option Addr} {n : Nat} {xs : List Bool} (h : Kd.bool.C w A n xs) (i : Nat) (hi : i < n) : ∃ ad, A = some ad ∧ w.cell? (ad.add i) = some (.bool (xs.getD i false)) := by
  obtain ⟨ad, cc, e, _, hKc, hcc⟩ := Kd.C_get h false (i : Int) (by omega) (by omega)
  obtain rfl : cc = [.bool (xs.getD i false)] := hKc
  have := hcc 0 _ rfl
  exact ⟨ad, e, by simpa [show Kd.bool.sz = 1 from rfl] using this⟩
/-- The imported globals. -/
def fl (imps : List S90) : List S90 := imps.filter fun x => decide (x.f2 = 3)
theorem fl_app (imps : List S90) (x : S90) : fl (imps ++ [x]) = if x.f2 = 3 then fl imps ++ [x] else fl imps := by
  unfold fl
  rw [List.filter_append]
  by_cases h : x.f2 = 3 <;> simp [h]
theorem upTo_fl (imps : List S90) : ∀ k, k ≤ imps.length → (upTo imps 3 k).map (fun x => rd_T90 imps (x.1 : Int)) = fl (imps.take k) := by
  intro k
  induction k with
  | zero => intro _; rfl
  | succ k ih =>
    intro hk
    have hlt : k < imps.length := by omega
    have ht : imps.take (k + 1) = imps.take k ++ [rd_T90 imps (k : Int)] := by
      rw [List.take_add_one]
      unfold rd_T90
      simp [List.getD_eq_getElem?_getD, hlt]
    rw [ht, fl_app, ← ih (by omega)]
    rw [upTo]
    by_cases h : (rd_T90 imps (k : Int)).f2 = 3
    · rw [dif_pos ⟨hlt, h⟩, if_pos h]
      simp
    · rw [dif_neg (fun h' => h h'.2), if_neg h]
theorem upTo_all (imps : List S90) : (upTo imps 3 imps.length).map (fun x => rd_T90 imps (x.1 : Int)) = fl imps := by
  rw [upTo_fl imps imps.length (Nat.le_refl _), List.take_length]
theorem cnt_fl (imps : List S90) : cnt imps 3 imps.length = (fl imps).length := by
  rw [← upTo_all imps, List.length_map]
  rfl
theorem nth_fl (imps : List S90) (a : Nat) (h : a < (fl imps).length) : nth imps 3 (a : Int) = (fl imps).getD a z90 := by
  unfold nth
  rw [← upTo_all imps] at h ⊢
  rw [List.length_map] at h
  rw [Int.toNat_natCast, List.getElem?_eq_getElem h]
  simp [List.getD_eq_getElem?_getD, h]
theorem get_may (a : Nat) (h : a < 16) : mayB (leaf 35 (a : Int) 0) = true := by
  have : u32B (a : Int) = true := decide_eq_true (by omega)
  unfold mayB mayA mayC mayN mayT mayL mayI leaf
  simp [this, show ofF 35 = 3 by decide]
theorem get_const (imps : List S90) (a : Nat) (t : Int) (h : a < 16) : constL imps (leaf 35 (a : Int) 0) t = if a < (fl imps).length ∧ ((fl imps).getD a z90).f4 = false then (if ((fl imps).getD a z90).f3 = t then 0 else 2001) else 2000 := by
  have h0 : (leaf 35 (a : Int) 0).f0 = 35 := rfl
  have h1 : (leaf 35 (a : Int) 0).f1 = a := rfl
  have hm0 := get_may a h
  unfold constL
  rw [if_neg (fun h' => by rw [h0] at h'; omega), h0, h1, cnt_fl]
  by_cases ha : a < (fl imps).length
  · have ha2 : (a : Int) < ((fl imps).length : Int) := by omega
    rw [nth_fl imps a ha]
    simp only [hm0, ha, ha2, true_and]
  · have ha2 : ¬ (a : Int) < ((fl imps).length : Int) := by omega
    simp only [ha, ha2, false_and, and_false, if_false]
theorem get_val (a : Nat) : valL (leaf 35 (a : Int) 0) = (0, 0, 2000) := by
  unfold valL
  rw [if_neg]
  intro h
  have h0 : (leaf 35 (a : Int) 0).f0 = 35 := rfl
  omega
/-- New blocks get the label c. -/
def relab (L : Nat → Nat) (n c : Nat) : Nat → Nat := fun k => if k < n then L k else c
theorem relab_old {L : Nat → Nat} {n c k : Nat} (h : k < n) : relab L n c k = L k := if_pos h
section
variable {α : Type} {d : Kd α} {e : Nat} {W W1 : World} {L : Nat → Nat} {c c' g : Nat} {v : Value} {xs : List α} {S : Nat → Prop}
theorem N_self (h : Kd.N d e W1 0 (fun k => L k = c ∨ W.heap.size ≤ k) v xs) : Kd.N d e W1 0 (fun k => relab L W.heap.size c k = c) v xs := Kd.N_mono h (fun k hk => by
  show (if k < W.heap.size then L k else c) = c
  split
  · rename_i h
    rcases hk with hk | hk
    · exact hk
    · omega
  · rfl)
theorem N_other (h : Kd.N d e W 0 (fun k => L k = c') v xs) (hf : Fr W W1 S) (hS : ∀ k, S k → L k ≠ c') : Kd.N d e W1 0 (fun k => relab L W.heap.size c k = c') v xs :=
  Kd.N_mono (Kd.N_step (Kd.N_bound h) (fun k hk hlt => hf.k.2 k hlt (fun hs => hS k hs hk.1))) (fun k hk => (relab_old hk.2).trans hk.1)
theorem app_fr {w1 : World} (h : Kd.N d e W 0 (fun k => L k = c) v xs) (hb : Below W.heap.size W w1) (hg : w1.grownBy W1 v.ownBlock) : Fr W W1 (fun k => L k = c) := (Fr.of_below hb _).then_ (Fr.grown hg (fun k hk => h.1 k hk)) (fun k hk => .inl hk)
end
def mcells (vI : Value) (lg : Nat) : Array Value := #[.slice none 0 0, vI, .slice none 0 0, .slice none 0 0, .slice none 0 0, .slice (some ⟨lg, 0, none⟩) 1 1, .slice none 0 0, .int .i64 0, .slice none 0 0, .slice none 0 0, .slice none 0 0]
structure St (w W : World) (L : Nat → Nat) (gm lg : Nat) (vI vt vm : Value) (imps : List S90) : Prop where
  low : ∀ k, k < w.heap.size → L k = 99
  bel : Below w.heap.size w W
  lm : L gm = 0
  m : W.heap[gm]? = some (.cells (mcells vI lg) 69 (0, 0))
  ll : L lg = 4
  g : W.heap[lg]? = some (.cells #[.int .i64 127, .bool false, .slice none 0 0] 93 (0, 0))
  I : Kd.N k90 90 W 0 (fun k => L k = 2) vI imps
  t : Kd.N (Kd.int .i64) 3 W 0 (fun k => L k = 5) vt ((fl imps).map (·.f3))
  u : Kd.N Kd.bool 4 W 0 (fun k => L k = 6) vm ((fl imps).map (·.f4))
/-- Within a round the lists are apart: what is still to come. -/
structure Sr (w W : World) (L : Nat → Nat) (gm lg : Nat) (vI vt vm : Value) (imps : List S90) (ty : List Int) (mu : List Bool) : Prop where
  low : ∀ k, k < w.heap.size → L k = 99
  bel : Below w.heap.size w W
  lm : L gm = 0
  m : W.heap[gm]? = some (.cells (mcells vI lg) 69 (0, 0))
  ll : L lg = 4
  g : W.heap[lg]? = some (.cells #[.int .i64 127, .bool false, .slice none 0 0] 93 (0, 0))
  I : Kd.N k90 90 W 0 (fun k => L k = 2) vI imps
  t : Kd.N (Kd.int .i64) 3 W 0 (fun k => L k = 5) vt ty
  u : Kd.N Kd.bool 4 W 0 (fun k => L k = 6) vm mu
section
variable {w W W1 : World} {L : Nat → Nat} {gm lg gb : Nat} {vI vt vm v1 : Value} {imps imps' : List S90} {ty ty' : List Int} {mu mu' : List Bool} {bx : Array Value}
theorem gm_ne {L : Nat → Nat} {k c : Nat} (hl : L gm = 0) (hk : L k = c ∨ k = gm) (hc : c ≠ 99) : L k ≠ 99 := by rcases hk with hk | rfl <;> omega
theorem gm_ne' {L : Nat → Nat} {k c c' : Nat} (hl : L gm = 0) (hk : L k = c ∨ k = gm) (hc : c ≠ c') (h0 : c' ≠ 0) : L k ≠ c' := by rcases hk with hk | rfl <;> omega
theorem Sr.lows (h : Sr w W L gm lg vI vt vm imps ty mu) (c : Nat) : ∀ k, k < w.heap.size → relab L W.heap.size c k = 99 := fun k hk => (relab_old (Nat.lt_of_lt_of_le hk h.bel.size)).trans (h.low k hk)
theorem Sr.bels (h : Sr w W L gm lg vI vt vm imps ty mu) {S : Nat → Prop} (hf : Fr W W1 S) (hS : ∀ k, S k → L k ≠ 99) : Below w.heap.size w W1 :=
  ((Fr.of_below h.bel S).then_ hf (fun k hk => .inl hk)).to_below (fun k hk => Nat.le_of_not_lt (fun hlt => hS k hk (h.low k hlt)))
theorem Sr.call (h : Sr w W L gm lg vI vt vm imps ty mu) (hb : Below W.heap.size W W1) : Sr w W1 L gm lg vI vt vm imps ty mu :=
  ⟨h.low, below_step h.bel hb, h.lm, blk_below h.m hb, h.ll, blk_below h.g hb, Kd.N_below h.I hb, Kd.N_below h.t hb, Kd.N_below h.u hb⟩
theorem Sr.app_t (h : Sr w W L gm lg vI vt vm imps ty mu) (hN : Kd.N (Kd.int .i64) 3 W1 0 (fun k => L k = 5 ∨ W.heap.size ≤ k) v1 ty') (hf : Fr W W1 (fun k => L k = 5)) :
    Sr w W1 (relab L W.heap.size 5) gm lg vI v1 vm imps ty' mu :=
  ⟨h.lows 5, h.bels hf (fun k hk => by omega), (relab_old (blk_lt h.m)).trans h.lm, hf.block h.m (fun hk => by have := h.lm; omega), (relab_old (blk_lt h.g)).trans h.ll, hf.block h.g (fun hk => by have := h.ll; omega),
   N_other h.I hf (fun k hk => by omega), N_self hN, N_other h.u hf (fun k hk => by omega)⟩
theorem Sr.app_u (h : Sr w W L gm lg vI vt vm imps ty mu) (hN : Kd.N Kd.bool 4 W1 0 (fun k => L k = 6 ∨ W.heap.size ≤ k) v1 mu') (hf : Fr W W1 (fun k => L k = 6)) :
    Sr w W1 (relab L W.heap.size 6) gm lg vI vt v1 imps ty mu' :=
  ⟨h.lows 6, h.bels hf (fun k hk => by omega), (relab_old (blk_lt h.m)).trans h.lm, hf.block h.m (fun hk => by have := h.lm; omega), (relab_old (blk_lt h.g)).trans h.ll, hf.block h.g (fun hk => by have := h.ll; omega),
   N_other h.I hf (fun k hk => by omega), N_other h.t hf (fun k hk => by omega), N_self hN⟩
theorem Sr.app_I (h : Sr w W L gm lg vI vt vm imps ty mu) (hN : Kd.N k90 90 W1 0 (fun k => L k = 2 ∨ W.heap.size ≤ k) v1 imps') (hm : W1.heap[gm]? = some (.cells (mcells v1 lg) 69 (0, 0))) (hf : Fr W W1 (fun k => L k = 2 ∨ k = gm)) :
    Sr w W1 (relab L W.heap.size 2) gm lg v1 vt vm imps' ty mu :=
  ⟨h.lows 2, h.bels hf (fun k hk => gm_ne h.lm hk (by decide)), (relab_old (blk_lt h.m)).trans h.lm, hm, (relab_old (blk_lt h.g)).trans h.ll, hf.block h.g (fun hk => gm_ne' (c' := 4) h.lm hk (by decide) (by decide) h.ll),
   N_self hN, N_other h.t hf (fun k hk => gm_ne' h.lm hk (by decide) (by decide)), N_other h.u hf (fun k hk => gm_ne' h.lm hk (by decide) (by decide))⟩
/-- A box of its own gets the label 8. -/
theorem Sr.box (h : Sr w W L gm lg vI vt vm imps ty mu) (hg : W.heap.size ≤ gb) (hb : Below W.heap.size W W1) : Sr w W1 (fun k => if k = gb then 8 else L k) gm lg vI vt vm imps ty mu :=
  ⟨fun k hk => by show (if k = gb then 8 else L k) = 99; rw [if_neg (by have := h.bel.size; omega)]; exact h.low k hk, below_step h.bel hb,
   by show (if gm = gb then 8 else L gm) = 0; rw [if_neg (by have := blk_lt h.m; omega)]; exact h.lm, blk_below h.m hb,
   by show (if lg = gb then 8 else L lg) = 4; rw [if_neg (by have := blk_lt h.g; omega)]; exact h.ll, blk_below h.g hb,
   Kd.N_mono (Kd.N_below (Kd.N_bound h.I) hb) (fun k hk => by show (if k = gb then 8 else L k) = 2; rw [if_neg (by have := hk.2; omega)]; exact hk.1),
   Kd.N_mono (Kd.N_below (Kd.N_bound h.t) hb) (fun k hk => by show (if k = gb then 8 else L k) = 5; rw [if_neg (by have := hk.2; omega)]; exact hk.1),
   Kd.N_mono (Kd.N_below (Kd.N_bound h.u) hb) (fun k hk => by show (if k = gb then 8 else L k) = 6; rw [if_neg (by have := hk.2; omega)]; exact hk.1)⟩
theorem box_lab (L : Nat → Nat) (gb : Nat) : (fun k => if k = gb then 8 else L k) gb = 8 := if_pos rfl
theorem St.call (h : St w W L gm lg vI vt vm imps) (hb : Below W.heap.size W W1) : St w W1 L gm lg vI vt vm imps :=
  ⟨h.low, below_step h.bel hb, h.lm, blk_below h.m hb, h.ll, blk_below h.g hb, Kd.N_below h.I hb, Kd.N_below h.t hb, Kd.N_below h.u hb⟩
theorem St.sr (h : St w W L gm lg vI vt vm imps) : Sr w W L gm lg vI vt vm imps ((fl imps).map (·.f3)) ((fl imps).map (·.f4)) := ⟨h.low, h.bel, h.lm, h.m, h.ll, h.g, h.I, h.t, h.u⟩
theorem Sr.st_no {x : S90} (h : Sr w W L gm lg vI vt vm (imps ++ [x]) ((fl imps).map (·.f3)) ((fl imps).map (·.f4))) (hx : x.f2 ≠ 3) : St w W L gm lg vI vt vm (imps ++ [x]) :=
  ⟨h.low, h.bel, h.lm, h.m, h.ll, h.g, h.I, by rw [fl_app, if_neg hx]; exact h.t, by rw [fl_app, if_neg hx]; exact h.u⟩
theorem Sr.st_yes {x : S90} (h : Sr w W L gm lg vI vt vm (imps ++ [x]) ((fl imps).map (·.f3) ++ [x.f3]) ((fl imps).map (·.f4) ++ [x.f4])) (hx : x.f2 = 3) : St w W L gm lg vI vt vm (imps ++ [x]) :=
  ⟨h.low, h.bel, h.lm, h.m, h.ll, h.g, h.I, by rw [fl_app, if_pos hx, List.map_append]; exact h.t, by rw [fl_app, if_pos hx, List.map_append]; exact h.u⟩
end
theorem fl_le (imps : List S90) : (fl imps).length ≤ imps.length := List.length_filter_le _ _
def RelC (w : World) (gm lg n : Nat) (v8 v9 v10 : Value) (wr : World) : Prop := ∃ (imps : List S90) (L : Nat → Nat) (vI vt vm : Value), imps.length + n = 20 ∧ vt = v8 ∧ vm = v9 ∧ v10 = .int .i64 imps.length ∧ St w wr L gm lg vI vt vm imps
theorem St.begin {w W : World} {gm lg : Nat} (hb : Below w.heap.size w W) (hg : w.heap.size ≤ gm) (hl : w.heap.size ≤ lg) (hne : lg ≠ gm) (hm : W.heap[gm]? = some (.cells (mcells (.slice none 0 0) lg) 69 (0, 0))) (hlg : W.heap[lg]? = some (.cells #[.int .i64 127, .bool false, .slice none 0 0] 93 (0, 0))) :
    St w W (fun k => if k < w.heap.size then 99 else if k = gm then 0 else 4) gm lg (.slice none 0 0) (.slice none 0 0) (.slice none 0 0) [] :=
  ⟨fun k hk => if_pos hk, hb, by show (if gm < w.heap.size then 99 else if gm = gm then 0 else 4) = 0; rw [if_neg (by omega), if_pos rfl], hm, by show (if lg < w.heap.size then 99 else if lg = gm then 0 else 4) = 4; rw [if_neg (by omega), if_neg hne], hlg, Kd.N_nil _ _ _ _ _, Kd.N_nil _ _ _ _ _, Kd.N_nil _ _ _ _ _⟩
theorem gs_at {W : World} {lg : Nat} (h : W.heap[lg]? = some (.cells #[.int .i64 127, .bool false, .slice none 0 0] 93 (0, 0))) : k93.C W (some ⟨lg, 0, none⟩) 1 [⟨127, false, []⟩] := C_row1 h (k93_mk W ⟨127, false, []⟩ (Nat.le_refl _) (Kd.C_nil _ _)) rfl (by decide)
end Go.Proofs.Ytmofdpkddimmlaa.EInstr
