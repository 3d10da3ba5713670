/-
  The contracts of both globals, each in one: what an act answers, and what it leaves.
-/
import Derived.Test.YtddfoogbakiojaaEGlobSet
import Derived.Test.YtddfoogbakiojaaEGlobRef2
namespace Go.Proofs.Ytddfoogbakiojaa.EGlob
open Go Go.RowKit Go.Proofs.Ytddfoogbakiojaa.F Go.Proofs.Ytddfoogbakiojaa.PureVals Go.Proofs.YtddfoogbakiojaaW.Hand Go.Proofs.YtddfoogbakiojaaW.PrintWords Go.Proofs.YtddfoogbakiojaaW.PrintLast Go.Proofs.YtddfoogbakiojaaW.PrintMore
set_option linter.unusedVariables false
set_option linter.unusedSimpArgs false

def addOk (xs : List Gl) (x y : Int) : Prop := mayV x y = true ∧ xs.length < 1024
def setOk (xs : List Gl) (k x y : Int) : Prop := 0 ≤ k ∧ k < xs.length ∧ mayV x y = true ∧ (rdG xs k).ty = x
open Classical in
noncomputable def addE (xs : List Gl) (x y : Int) : Int := if addOk xs x y then 0 else 1000
open Classical in
noncomputable def addL (xs : List Gl) (x y : Int) (m : Bool) : List Gl := if addOk xs x y then xs ++ [⟨x, y, m⟩] else xs
open Classical in
noncomputable def setE (xs : List Gl) (k x y : Int) : Int := if setOk xs k x y then (if (rdG xs k).mt = true then 0 else 1001) else 1000
open Classical in
noncomputable def setL (xs : List Gl) (k x y : Int) : List Gl := if setOk xs k x y ∧ (rdG xs k).mt = true then xs.set k.toNat ⟨x, y, true⟩ else xs
open Classical in
noncomputable def getE (xs : List Gl) (k : Int) : Int := if 0 ≤ k ∧ k < xs.length then 0 else 1000
open Classical in
noncomputable def getT (xs : List Gl) (k : Int) : Int := if 0 ≤ k ∧ k < xs.length then (rdG xs k).ty else 0
open Classical in
noncomputable def getB (xs : List Gl) (k : Int) : Int := if 0 ≤ k ∧ k < xs.length then (rdG xs k).bits else 0
theorem addL_len {xs : List Gl} {x y : Int} {m : Bool} (h : xs.length ≤ 1024) : (addL xs x y m).length ≤ 1024 := by
  unfold addL
  split
  · rename_i h1
    have := h1.2
    simp
    omega
  · exact h
theorem setL_len (xs : List Gl) (k x y : Int) : (setL xs k x y).length = xs.length := by
  unfold setL
  split <;> simp
section
variable {w : World} {g : Nat} {S : Nat → Prop} {xs : List Gl} {k x y : Int} {m : Bool}
theorem Gs.more (h : Gs w g S xs) {w1 : World} (hb : Below w.heap.size w w1) : Gs w1 g (fun k => S k ∨ w.heap.size ≤ k) xs := (h.below hb).mono (fun _ hk => .inl hk)
theorem Rs.more (h : Rs w g S xs) {w1 : World} (hb : Below w.heap.size w w1) : Rs w1 g (fun k => S k ∨ w.heap.size ≤ k) xs := (h.below hb).mono (fun _ hk => .inl hk)
theorem add_calls (h : Gs w g S xs) : Calls Try.prog 25 #[.pointer (some ⟨g, 0, none⟩), .agg #[.int .i64 x, .int .i64 y], .bool m] w fun e w' => e = .returned (.int .i64 (addE xs x y)) ∧ Gs w' g (fun k => S k ∨ w.heap.size ≤ k) (addL xs x y m) ∧ Fr w w' S := by
  cases hm : mayV x y with
  | false =>
    have hn : ¬ addOk xs x y := fun ho => by rw [ho.1] at hm; cases hm
    refine (add_may h hm).mono fun e w' ⟨h1, h2⟩ => ⟨by rw [h1, addE, if_neg hn], by rw [addL, if_neg hn]; exact h.more h2, Fr.of_below h2 _⟩
  | true =>
    by_cases hl : xs.length < 1024
    · have hn : addOk xs x y := ⟨hm, hl⟩
      refine (add_fits h hm hl).mono fun e w' ⟨h1, h2, h3⟩ => ⟨by rw [h1, addE, if_pos hn], by rw [addL, if_pos hn]; exact h2, h3⟩
    · have hn : ¬ addOk xs x y := fun ho => hl ho.2
      refine (add_full h hm (by simp; omega)).mono fun e w' ⟨h1, h2⟩ => ⟨by rw [h1, addE, if_neg hn], by rw [addL, if_neg hn]; exact h.more h2, Fr.of_below h2 _⟩
theorem radd_calls (h : Rs w g S xs) : Calls Try.prog 29 #[.pointer (some ⟨g, 0, none⟩), .agg #[.int .i64 x, .int .i64 y], .bool m] w fun e w' => e = .returned (.int .i64 (addE xs x y)) ∧ Rs w' g (fun k => S k ∨ w.heap.size ≤ k) (addL xs x y m) ∧ Fr w w' S := by
  cases hm : mayV x y with
  | false =>
    have hn : ¬ addOk xs x y := fun ho => by rw [ho.1] at hm; cases hm
    refine (radd_may h hm).mono fun e w' ⟨h1, h2⟩ => ⟨by rw [h1, addE, if_neg hn], by rw [addL, if_neg hn]; exact h.more h2, Fr.of_below h2 _⟩
  | true =>
    by_cases hl : xs.length < 1024
    · have hn : addOk xs x y := ⟨hm, hl⟩
      refine (radd_fits h hm hl).mono fun e w' ⟨h1, h2, h3⟩ => ⟨by rw [h1, addE, if_pos hn], by rw [addL, if_pos hn]; exact h2, h3⟩
    · have hn : ¬ addOk xs x y := fun ho => hl ho.2
      refine (radd_full h hm (by simp; omega)).mono fun e w' ⟨h1, h2⟩ => ⟨by rw [h1, addE, if_neg hn], by rw [addL, if_neg hn]; exact h.more h2, Fr.of_below h2 _⟩
theorem set_calls (h : Gs w g S xs) : Calls Try.prog 26 #[.pointer (some ⟨g, 0, none⟩), .int .i64 k, .agg #[.int .i64 x, .int .i64 y]] w fun e w' => e = .returned (.int .i64 (setE xs k x y)) ∧ Gs w' g (fun k => S k ∨ w.heap.size ≤ k) (setL xs k x y) ∧ Fr w w' S := by
  have bad : ¬ setOk xs k x y → (∀ (e : Ending) (w' : World), e = .returned (.int .i64 1000) ∧ Below w.heap.size w w' → e = .returned (.int .i64 (setE xs k x y)) ∧ Gs w' g (fun k => S k ∨ w.heap.size ≤ k) (setL xs k x y) ∧ Fr w w' S) := by
    intro hn e w' ⟨h1, h2⟩
    exact ⟨by rw [h1, setE, if_neg hn], by rw [setL, if_neg (fun hh => hn hh.1)]; exact h.more h2, Fr.of_below h2 _⟩
  by_cases h0 : k < 0
  · exact (set_neg h h0).mono (bad (fun ho => by have := ho.1; omega))
  · by_cases h1 : (xs.length : Int) ≤ k
    · exact (set_big h h1).mono (bad (fun ho => by have := ho.2.1; omega))
    · cases hm : mayV x y with
      | false => exact (set_may h (by omega) (by omega) hm).mono (bad (fun ho => by rw [ho.2.2.1] at hm; cases hm))
      | true =>
        by_cases ht : (rdG xs k).ty = x
        · have ho : setOk xs k x y := ⟨by omega, by omega, hm, ht⟩
          cases hmt : (rdG xs k).mt with
          | false =>
            refine (set_const h (by omega) (by omega) hm ht hmt).mono fun e w' ⟨h1, h2⟩ => ⟨by rw [h1, setE, if_pos ho, if_neg (by rw [hmt]; simp)], by rw [setL, if_neg (fun hh => by rw [hmt] at hh; cases hh.2)]; exact h.more h2, Fr.of_below h2 _⟩
          | true =>
            refine (set_ok h (by omega) (by omega) hm ht hmt).mono fun e w' ⟨h1, h2, h3⟩ => ⟨by rw [h1, setE, if_pos ho, if_pos hmt], by rw [setL, if_pos ⟨ho, hmt⟩]; exact h2.mono (fun _ hk => .inl hk), h3⟩
        · exact (set_type h (by omega) (by omega) hm ht).mono (bad (fun ho => ht ho.2.2.2))
theorem rset_calls (h : Rs w g S xs) : Calls Try.prog 30 #[.pointer (some ⟨g, 0, none⟩), .int .i64 k, .agg #[.int .i64 x, .int .i64 y]] w fun e w' => e = .returned (.int .i64 (setE xs k x y)) ∧ Rs w' g (fun k => S k ∨ w.heap.size ≤ k) (setL xs k x y) ∧ Fr w w' S := by
  have bad : ¬ setOk xs k x y → (∀ (e : Ending) (w' : World), e = .returned (.int .i64 1000) ∧ Below w.heap.size w w' → e = .returned (.int .i64 (setE xs k x y)) ∧ Rs w' g (fun k => S k ∨ w.heap.size ≤ k) (setL xs k x y) ∧ Fr w w' S) := by
    intro hn e w' ⟨h1, h2⟩
    exact ⟨by rw [h1, setE, if_neg hn], by rw [setL, if_neg (fun hh => hn hh.1)]; exact h.more h2, Fr.of_below h2 _⟩
  by_cases h0 : k < 0
  · exact (rset_neg h h0).mono (bad (fun ho => by have := ho.1; omega))
  · by_cases h1 : (xs.length : Int) ≤ k
    · exact (rset_big h h1).mono (bad (fun ho => by have := ho.2.1; omega))
    · cases hm : mayV x y with
      | false => exact (rset_may h (by omega) (by omega) hm).mono (bad (fun ho => by rw [ho.2.2.1] at hm; cases hm))
      | true =>
        by_cases ht : (rdG xs k).ty = x
        · have ho : setOk xs k x y := ⟨by omega, by omega, hm, ht⟩
          cases hmt : (rdG xs k).mt with
          | false =>
            refine (rset_const h (by omega) (by omega) hm ht hmt).mono fun e w' ⟨h1, h2⟩ => ⟨by rw [h1, setE, if_pos ho, if_neg (by rw [hmt]; simp)], by rw [setL, if_neg (fun hh => by rw [hmt] at hh; cases hh.2)]; exact h.more h2, Fr.of_below h2 _⟩
          | true =>
            refine (rset_ok h (by omega) (by omega) hm ht hmt).mono fun e w' ⟨h1, h2, h3⟩ => ⟨by rw [h1, setE, if_pos ho, if_pos hmt], by rw [setL, if_pos ⟨ho, hmt⟩]; exact h2.mono (fun _ hk => .inl hk), h3⟩
        · exact (rset_type h (by omega) (by omega) hm ht).mono (bad (fun ho => ht ho.2.2.2))
theorem get_calls (h : Gs w g S xs) : Calls Try.prog 27 #[.pointer (some ⟨g, 0, none⟩), .int .i64 k] w fun e w' => e = .returned (.tuple #[.agg #[.int .i64 (getT xs k), .int .i64 (getB xs k)], .int .i64 (getE xs k)]) ∧ Below w.heap.size w w' := by
  unfold getT getB getE
  by_cases h0 : k < 0
  · simp only [if_neg (show ¬ (0 ≤ k ∧ k < xs.length) from fun hh => by omega)]
    exact get_neg h h0
  · by_cases h1 : (xs.length : Int) ≤ k
    · simp only [if_neg (show ¬ (0 ≤ k ∧ k < xs.length) from fun hh => by omega)]
      exact get_big h h1
    · simp only [if_pos (show (0 ≤ k ∧ k < xs.length) from by omega)]
      exact get_in h (by omega) (by omega)
theorem rget_calls (h : Rs w g S xs) : Calls Try.prog 31 #[.pointer (some ⟨g, 0, none⟩), .int .i64 k] w fun e w' => e = .returned (.tuple #[.agg #[.int .i64 (getT xs k), .int .i64 (getB xs k)], .int .i64 (getE xs k)]) ∧ Below w.heap.size w w' := by
  unfold getT getB getE
  by_cases h0 : k < 0
  · simp only [if_neg (show ¬ (0 ≤ k ∧ k < xs.length) from fun hh => by omega)]
    exact rget_neg h h0
  · by_cases h1 : (xs.length : Int) ≤ k
    · simp only [if_neg (show ¬ (0 ≤ k ∧ k < xs.length) from fun hh => by omega)]
      exact rget_big h h1
    · simp only [if_pos (show (0 ≤ k ∧ k < xs.length) from by omega)]
      exact rget_in h (by omega) (by omega)
end
/-- Both globals, apart from one another, all new since w0. -/
structure Two (w0 W : World) (g r : Nat) (S T : Nat → Prop) (xs ys : List Gl) : Prop where
  gs : Gs W g S xs
  rs : Rs W r T ys
  sn : ∀ k, S k → w0.heap.size ≤ k ∧ k < W.heap.size
  tn : ∀ k, T k → w0.heap.size ≤ k ∧ k < W.heap.size
  dis : ∀ k, S k → ¬ T k
  le : w0.heap.size ≤ W.heap.size
section
variable {w0 W W1 : World} {g r : Nat} {S T : Nat → Prop} {xs ys zs : List Gl}
theorem Two.below (h : Two w0 W g r S T xs ys) (hb : Below W.heap.size W W1) : Two w0 W1 g r S T xs ys :=
  ⟨h.gs.below hb, h.rs.below hb, fun k hk => ⟨(h.sn k hk).1, Nat.lt_of_lt_of_le (h.sn k hk).2 hb.size⟩, fun k hk => ⟨(h.tn k hk).1, Nat.lt_of_lt_of_le (h.tn k hk).2 hb.size⟩, h.dis, Nat.le_trans h.le hb.size⟩
theorem Two.frame (h : Two w0 W g r S T xs ys) {U : Nat → Prop} (hf : Fr W W1 U) (hs : ∀ k, S k → ¬ U k) (ht : ∀ k, T k → ¬ U k) : Two w0 W1 g r S T xs ys :=
  ⟨h.gs.frame hf (fun k hk _ => hs k hk), h.rs.frame hf (fun k hk _ => ht k hk), fun k hk => ⟨(h.sn k hk).1, Nat.lt_of_lt_of_le (h.sn k hk).2 hf.size⟩, fun k hk => ⟨(h.tn k hk).1, Nat.lt_of_lt_of_le (h.tn k hk).2 hf.size⟩, h.dis, Nat.le_trans h.le hf.size⟩
theorem Two.atG (h : Two w0 W g r S T xs ys) (hg : Gs W1 g (fun k => S k ∨ W.heap.size ≤ k) zs) (hf : Fr W W1 S) : Two w0 W1 g r (fun k => (S k ∨ W.heap.size ≤ k) ∧ k < W1.heap.size) T zs ys :=
  ⟨hg.bound, h.rs.frame hf (fun k hk _ hs => h.dis k hs hk), fun k hk => ⟨hk.1.elim (fun hs => (h.sn k hs).1) (fun hs => Nat.le_trans h.le hs), hk.2⟩, fun k hk => ⟨(h.tn k hk).1, Nat.lt_of_lt_of_le (h.tn k hk).2 hf.size⟩,
    fun k hk ht => hk.1.elim (fun hs => h.dis k hs ht) (fun hs => by have := (h.tn k ht).2; omega), Nat.le_trans h.le hf.size⟩
theorem Two.atR (h : Two w0 W g r S T xs ys) (hg : Rs W1 r (fun k => T k ∨ W.heap.size ≤ k) zs) (hf : Fr W W1 T) : Two w0 W1 g r S (fun k => (T k ∨ W.heap.size ≤ k) ∧ k < W1.heap.size) xs zs :=
  ⟨h.gs.frame hf (fun k hk _ hs => h.dis k hk hs), hg.bound, fun k hk => ⟨(h.sn k hk).1, Nat.lt_of_lt_of_le (h.sn k hk).2 hf.size⟩, fun k hk => ⟨hk.1.elim (fun hs => (h.tn k hs).1) (fun hs => Nat.le_trans h.le hs), hk.2⟩,
    fun k hk ht => ht.1.elim (fun hs => h.dis k hk hs) (fun hs => by have := (h.sn k hk).2; omega), Nat.le_trans h.le hf.size⟩
theorem Two.fr_below (h : Two w0 W g r S T xs ys) (hb : Below w0.heap.size w0 W) {U : Nat → Prop} (hu : ∀ k, U k → w0.heap.size ≤ k) (hf : Fr W W1 U) : Below w0.heap.size w0 W1 :=
  ((Fr.of_below hb (fun k => w0.heap.size ≤ k)).then_ hf (fun k hk => .inl (hu k hk))).to_below (fun k hk => hk)
end
end Go.Proofs.Ytddfoogbakiojaa.EGlob
