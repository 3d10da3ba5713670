/-
  The reference host: its state.
-/
import Derived.Test.YtmofdpkddimmlaaETraceAwake
import Derived.Test.YtmofdpkddimmlaaETraceOrder
namespace Go.Proofs.Ytmofdpkddimmlaa.ETrace
open Go Go.RowKit Go.Proofs.Ytmofdpkddimmlaa.F Go.Proofs.Ytmofdpkddimmlaa.PureVals Go.Proofs.YtmofdpkddimmlaaW.Hand Go.Proofs.YtmofdpkddimmlaaW.PrintWords Go.Proofs.YtmofdpkddimmlaaW.PrintLast Go.Proofs.YtmofdpkddimmlaaW.PrintMore
set_option linter.unusedVariables false
set_option linter.unusedSimpArgs false
/-- A host behind block g: what it will answer, what it has heard; all of it lies in S. -/
def Rs (W : World) (g : Nat) (S : Nat → Prop) (an : List (List S56)) (hs : List Hd) : Prop :=
  ∃ A c u, W.heap[g]? = some (.cells #[.slice A an.length c, u] 48 (0, 0)) ∧ an.length ≤ c ∧ S g ∧ Kd.F k27 W (fun k => (S k ∧ k ≠ g) ∧ some k ≠ u.ownBlock) A an.length an ∧ Kd.N k52 52 W 0 (fun k => S k ∧ k ≠ g) u hs
section
variable {W W1 : World} {g : Nat} {S S2 T : Nat → Prop} {an : List (List S56)} {hs : List Hd}
theorem Rs.mono (h : Rs W g S an hs) (hs' : ∀ k, S k → S2 k) : Rs W g S2 an hs := by
  obtain ⟨A, c, u, h1, h2, h3, h4, h5⟩ := h
  exact ⟨A, c, u, h1, h2, hs' _ h3, Kd.F_mono h4 (fun k hk => ⟨⟨hs' k hk.1.1, hk.1.2⟩, hk.2⟩), Kd.N_mono h5 (fun k hk => ⟨hs' k hk.1, hk.2⟩)⟩
theorem Rs.bound (h : Rs W g S an hs) : Rs W g (fun k => S k ∧ k < W.heap.size) an hs := by
  obtain ⟨A, c, u, h1, h2, h3, h4, h5⟩ := h
  exact ⟨A, c, u, h1, h2, ⟨h3, blk_lt h1⟩, Kd.F_mono (Kd.F_bound h4) (fun k hk => ⟨⟨⟨hk.1.1.1, hk.2⟩, hk.1.1.2⟩, hk.1.2⟩), Kd.N_mono (Kd.N_bound h5) (fun k hk => ⟨⟨hk.1.1, hk.2⟩, hk.1.2⟩)⟩
theorem Rs.frame (h : Rs W g S an hs) (hf : Fr W W1 T) (hd : ∀ k, S k → k < W.heap.size → ¬ T k) : Rs W1 g S an hs := by
  obtain ⟨A, c, u, h1, h2, h3, h4, h5⟩ := h
  exact ⟨A, c, u, hf.block h1 (hd _ h3 (blk_lt h1)), h2, h3, Kd.F_step h4 (fun k hk hlt => hf.k.2 k hlt (hd k hk.1.1 hlt)), Kd.N_step h5 (fun k hk hlt => hf.k.2 k hlt (hd k hk.1 hlt))⟩
theorem Rs.below (h : Rs W g S an hs) (hb : Below W.heap.size W W1) : Rs W1 g S an hs := h.frame (Fr.of_below hb (fun _ => False)) (fun _ _ _ h => h)
end

/-- The caller holds the blocks of P; the host lies elsewhere. -/
def Qr (w0 W : World) (g : Nat) (P : Nat → Prop) (an : List (List S56)) (hs : List Hd) : Prop := Rs W g (fun k => ¬ P k) an hs ∧ (∀ k, P k → k < W.heap.size) ∧ (∀ k, k < w0.heap.size → P k) ∧ Below w0.heap.size w0 W
section
variable {w0 w1 W W1 : World} {g : Nat} {P : Nat → Prop} {an an' : List (List S56)} {hs hs' : List Hd}
theorem Qr.start (h : Rs W g (fun k => w1.heap.size ≤ k) an hs) (hb : Below w0.heap.size w0 w1) (hb' : Below w1.heap.size w1 W) : Qr w0 W g (fun k => k < w0.heap.size) an hs :=
  ⟨h.mono (fun k hk hn => by have := hb.size; omega), fun k hk => by have := hb.size; have := hb'.size; omega, fun k hk => hk, below_step hb hb'⟩
theorem Qr.below (h : Qr w0 W g P an hs) (hb : Below W.heap.size W W1) : Qr w0 W1 g P an hs := ⟨h.1.below hb, fun k hk => Nat.lt_of_lt_of_le (h.2.1 k hk) hb.size, h.2.2.1, below_step h.2.2.2 hb⟩
/-- What the caller has made since is held too. -/
theorem Qr.guard (h : Qr w0 W g P an hs) (hb : Below W.heap.size W W1) : Qr w0 W1 g (fun k => P k ∨ (W.heap.size ≤ k ∧ k < W1.heap.size)) an hs :=
  ⟨(h.1.bound.below hb).mono (fun k hk hn => hn.elim hk.1 (fun hn => by have := hk.2; omega)), fun k hk => hk.elim (fun hk => Nat.lt_of_lt_of_le (h.2.1 k hk) hb.size) (fun hk => hk.2), fun k hk => .inl (h.2.2.1 k hk), below_step h.2.2.2 hb⟩
theorem Qr.of_fr (h : Qr w0 W g P an hs) (h1 : Rs W1 g (fun k => ¬ P k ∨ W.heap.size ≤ k) an' hs') (hf : Fr W W1 (fun k => ¬ P k)) : Qr w0 W1 g P an' hs' :=
  ⟨h1.mono (fun k hk hp => hk.elim (fun hn => hn hp) (fun hn => by have := h.2.1 k hp; omega)), fun k hk => Nat.lt_of_lt_of_le (h.2.1 k hk) hf.size, h.2.2.1,
   ((Fr.of_below h.2.2.2 (fun k => w0.heap.size ≤ k)).then_ (hf.mono (S2 := fun k => w0.heap.size ≤ k) (fun k hn => by by_cases hlt : k < w0.heap.size; exact absurd (h.2.2.1 k hlt) hn; omega)) (fun k hk => .inl hk)).to_below (fun k hk => hk)⟩
theorem Qr.host (h : Qr w0 W g P an hs) : Rs W g (fun k => ¬ P k) an hs := h.1
theorem Qr.all (h : Qr w0 W g P an hs) : Below w0.heap.size w0 W := h.2.2.2
theorem Qr.kp (h : Qr w0 W g P an hs) (hf : Fr W W1 (fun k => ¬ P k)) : Kp P W W1 := fun k hk => hf.k.2 k (h.2.1 k hk) (fun hn => hn hk)
theorem Qr.kpb (h : Qr w0 W g P an hs) (hb : Below W.heap.size W W1) : Kp P W W1 := fun k hk => hb.block k (h.2.1 k hk)
end
theorem Qr.less {w0 W : World} {g : Nat} {P Q : Nat → Prop} {an : List (List S56)} {hs : List Hd} (h : Qr w0 W g P an hs) (hq : ∀ k, Q k → P k) (h0 : ∀ k, k < w0.heap.size → Q k) : Qr w0 W g Q an hs :=
  ⟨h.1.mono (fun k hk hn => hk (hq k hn)), fun k hk => h.2.1 k (hq k hk), h0, h.2.2.2⟩
theorem Qr.begin {w0 w1 W : World} {g : Nat} {an : List (List S56)} {hs : List Hd} (h : Rs W g (fun k => w1.heap.size ≤ k) an hs) (hb : Below w0.heap.size w0 w1) (hb' : Below w1.heap.size w1 W) : Qr w0 W g (fun k => k < w0.heap.size) an hs := Qr.start h hb hb'
end Go.Proofs.Ytmofdpkddimmlaa.ETrace
