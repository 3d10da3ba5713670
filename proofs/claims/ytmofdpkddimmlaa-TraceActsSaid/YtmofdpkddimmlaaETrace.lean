/-
  A host: its kinds, its state, what is cloned.
-/
import Derived.Test.YtmofdpkddimmlaaWFr
import Derived.Test.YtmofdpkddimmlaaPureValsC
import Derived.Lib.SliceRun
namespace Go.Proofs.Ytmofdpkddimmlaa.ETrace
open Go Go.RowKit Go.Proofs.Ytmofdpkddimmlaa.F Go.Proofs.Ytmofdpkddimmlaa.PureVals Go.Proofs.YtmofdpkddimmlaaW.Hand Go.Proofs.YtmofdpkddimmlaaW.PrintWords Go.Proofs.YtmofdpkddimmlaaW.PrintLast Go.Proofs.YtmofdpkddimmlaaW.PrintMore
set_option linter.unusedVariables false
set_option linter.unusedSimpArgs false
/-- What was heard: a function's number, its arguments. -/
structure Hd where
  fn : Int
  args : List S56
def k52 : Kd Hd := Kd.iso (Kd.pair (Kd.int .i64) (Kd.slice 56 k56)) (fun x : Hd => (x.fn, x.args))
def k27 : Kd (List S56) := Kd.slice 56 k56
theorem heap56 : Kd.Heap k56 := Kd.heap_iso _ (Kd.heap_pair (Kd.heap_int _) (Kd.heap_int _))
theorem heap27 : Kd.Heap k27 := Kd.heap_slice 56 heap56
theorem heap52 : Kd.Heap k52 := Kd.heap_iso _ (Kd.heap_pair (Kd.heap_int _) heap27)
theorem k27_mk {W : World} {vs : List S56} {A : Option Addr} {c : Nat} (h : k56.C W A vs.length vs) (hc : vs.length ≤ c) : k27.K W vs [.slice A vs.length c] := ⟨A, c, rfl, hc, h⟩
theorem k27_open {W : World} {vs : List S56} {cs : List Value} (h : k27.K W vs cs) : ∃ A c, cs = [.slice A vs.length c] ∧ vs.length ≤ c ∧ k56.C W A vs.length vs := h
theorem k52_mk {W : World} {f : Int} {vs : List S56} {A : Option Addr} {c : Nat} (h : k56.C W A vs.length vs) (hc : vs.length ≤ c) : k52.K W ⟨f, vs⟩ [.int .i64 f, .slice A vs.length c] := ⟨[.int .i64 f], [.slice A vs.length c], rfl, rfl, A, c, rfl, hc, h⟩
theorem k52_open {W : World} {x : Hd} {cs : List Value} (h : k52.K W x cs) : ∃ A c, cs = [.int .i64 x.fn, .slice A x.args.length c] ∧ x.args.length ≤ c ∧ k56.C W A x.args.length x.args := by
  obtain ⟨c0, c1, rfl, h0, A, c, rfl, hc, h1⟩ := h
  obtain rfl := h0
  exact ⟨A, c, rfl, hc, h1⟩
/-- One element in a block of its own, an a row that is read. -/
theorem F_one {α : Type} {d : Kd α} {W : World} {g : Nat} {cs : List Value} {t : TypeId} {x : α} {ok : Nat → Prop} (h : W.heap[g]? = some (.cells cs.toArray t (0, 0))) (hg : ok g) (hk : Kd.FK d W ok x cs) : Kd.F d W ok (some ⟨g, 0, none⟩) 1 [x] := by
  intro W' hW
  refine ⟨rfl, by simp, fun _ => ⟨_, rfl, fun j p hp => ?_⟩⟩
  cases j with
  | zero =>
    obtain rfl : x = p := by simpa using hp
    have hK := hk W' hW
    refine ⟨cs, d.K_len hK, hK, fun i u hu => ?_⟩
    rw [add_plain, blk_cell ((hW g hg (blk_lt h)).trans h)]
    simpa using hu
  | succ j => simp at hp
theorem FK_52 {W : World} {f : Int} {vs : List S56} {A : Option Addr} {n c : Nat} {b : Nat} {ok : Nat → Prop} (h : k56.R 56 W b ok (.slice A n c) vs) : Kd.FK k52 W ok ⟨f, vs⟩ [.int .i64 f, .slice A n c] := fun W' hW => by
  obtain ⟨rfl, h2, h3⟩ := Kd.R_reads' (Kd.R_step h hW)
  exact k52_mk h3 h2
theorem FK_27 {W : World} {vs : List S56} {A : Option Addr} {n c : Nat} {b : Nat} {ok : Nat → Prop} (h : k56.R 56 W b ok (.slice A n c) vs) : Kd.FK k27 W ok vs [.slice A n c] := fun W' hW => by
  obtain ⟨rfl, h2, h3⟩ := Kd.R_reads' (Kd.R_step h hW)
  exact k27_mk h3 h2
set_option maxHeartbeats 1000000 in
set_option maxRecDepth 100000 in
theorem clone_calls {w : World} {A : Option Addr} {c : Nat} {vs : List S56} (h : k56.C w A vs.length vs) (hs : vs.length * 16 ≤ 140737488351232) :
    Calls Try.prog 48 #[.slice A vs.length c] w fun e w' => ∃ A' c', e = .returned (.slice A' vs.length c') ∧ k56.R 56 w' w.heap.size (fun k => w.heap.size ≤ k) (.slice A' vs.length c') vs ∧ Below w.heap.size w w' := by
  have hu56 := Try.underlying56
  have hu24 := Try.underlying24
  have hq := fun (W : World) (a : Option Addr) (n c : Nat) => Lib.run_eql_slice_nil (P := Try.prog) W 24 56 a n c 0 0 hu24
  have H := Aside0.mk h
  have HS := Aside0.mk hs
  clear hs
  cases A with
  | none =>
    have hn : vs = [] := by
      cases vs with
      | nil => rfl
      | cons a l =>
        obtain ⟨ad, e, _⟩ := h.2.2 (by simp)
        cases e
    subst hn
    clear h
    go_enter Try.func48, Try.ntmps48
    go_wp2
    go_ret
    exact ⟨none, 0, rfl, Kd.R_nil _ _ _ _ _, Below.refl _ _⟩
  | some ad =>
    clear h
    go_enter Try.func48, Try.ntmps48
    go_wp2_with (first
      | ((with_reducible refine gate_dst (N := 5) rfl ?_); refine Kd.R_lit k56 (w0 := w) w.heap.size 56 ?hg (N := 5) ?hd (xs := []) (inner := []) (ok := fun k => w.heap.size ≤ k) (okp := fun _ => False) ?hr (Reps.none _ _) (fun _ hk => hk.elim) (Nat.le_refl _) (Below.refl _ _) (Nat.le_refl _) (by simp) ?_; (case hd => rfl); (case hg => rfl); (case hr => first | (go_simp; done) | (go_simp; rfl)); intro v1 w1 hR hb _ _; have R1 := Aside0.mk hR; have HB1 := Aside0.mk hb; clear hR hb)
      | ((with_reducible refine gate_dst (N := 7) rfl ?_); refine Kd.R_append_rows (w0 := w) k56 w.heap.size rfl (.tmp 5) (.tmp 6) 24 56 (.agg #[.int .i64 0, .int .i64 0]) 16 rfl hu24 (by kernel_rfl) rfl (by decide) (by decide) v1 [] vs (some ad) vs.length c (fun k => w.heap.size ≤ k) (fun _ => False) rfl rfl R1.out (Kd.C_below H.out HB1.out) (fun x cs hk => by rw [k56_open hk]; exact k56_mkM _ _ _ _) (fun _ hk => hk.elim) (fun k hk => Nat.le_trans HB1.out.size hk) HB1.out HB1.out.size (by have := HS.out; simp; omega) ?_; intro v2 w2 hR hb _ _; obtain ⟨A2, c2, rfl⟩ := Kd.R_slice hR; have R2 := Aside0.mk hR; have HB2 := Aside0.mk hb; clear hR hb))
    go_ret
    exact ⟨A2, c2, rfl, R2.out, HB2.out⟩
theorem num_calls (e : Int) (w : World) : Calls Try.prog 20 #[.int .i64 e] w fun r w' => r = .returned (.int .i64 e) ∧ w = w' := by
  go_enter Try.func20, Try.ntmps20
  go_wp2
  go_ret
  exact ⟨rfl, rfl⟩
theorem fits_calls {w : World} {Ar A : Option Addr} {cr c : Nat} {rs : List Int} {vs : List S56} {b : Bool} (hb : fitV rs vs = b) (hr : (Kd.int .i64).C w Ar rs.length rs) (hcr : rs.length ≤ cr) (h : k56.C w A vs.length vs) (hc : vs.length ≤ c) :
    Calls Try.prog 49 #[.slice Ar rs.length cr, .slice A vs.length c] w fun e w' => e = .returned (.bool b) ∧ Below w.heap.size w w' := by
  subst hb
  obtain ⟨k, hk⟩ := (fits_ev rs vs (Kd.C_max hr)).rounds
  exact (trace_fits.calls k _ _ _ _ _ _ _ w hr hcr h hc hk).mono fun _ _ hh => ⟨hh.1, by first | exact hh.2 | exact hh.2.below⟩
/-- A host behind block g: what it will answer, what it has heard; all of it lies in S. -/
def Hs (W : World) (g : Nat) (S : Nat → Prop) (an : List (List S56)) (hs : List Hd) : Prop :=
  ∃ A c u, W.heap[g]? = some (.cells #[.slice A an.length c, u] 110 (0, 0)) ∧ an.length ≤ c ∧ S g ∧ Kd.F k27 W (fun k => (S k ∧ k ≠ g) ∧ some k ≠ u.ownBlock) A an.length an ∧ Kd.N k52 52 W 0 (fun k => S k ∧ k ≠ g) u hs
section
variable {W W1 : World} {g : Nat} {S S2 T : Nat → Prop} {an : List (List S56)} {hs : List Hd}
theorem Hs.mono (h : Hs W g S an hs) (hs' : ∀ k, S k → S2 k) : Hs W g S2 an hs := by
  obtain ⟨A, c, u, h1, h2, h3, h4, h5⟩ := h
  exact ⟨A, c, u, h1, h2, hs' _ h3, Kd.F_mono h4 (fun k hk => ⟨⟨hs' k hk.1.1, hk.1.2⟩, hk.2⟩), Kd.N_mono h5 (fun k hk => ⟨hs' k hk.1, hk.2⟩)⟩
theorem Hs.bound (h : Hs W g S an hs) : Hs W g (fun k => S k ∧ k < W.heap.size) an hs := by
  obtain ⟨A, c, u, h1, h2, h3, h4, h5⟩ := h
  exact ⟨A, c, u, h1, h2, ⟨h3, blk_lt h1⟩, Kd.F_mono (Kd.F_bound h4) (fun k hk => ⟨⟨⟨hk.1.1.1, hk.2⟩, hk.1.1.2⟩, hk.1.2⟩), Kd.N_mono (Kd.N_bound h5) (fun k hk => ⟨⟨hk.1.1, hk.2⟩, hk.1.2⟩)⟩
theorem Hs.frame (h : Hs W g S an hs) (hf : Fr W W1 T) (hd : ∀ k, S k → k < W.heap.size → ¬ T k) : Hs W1 g S an hs := by
  obtain ⟨A, c, u, h1, h2, h3, h4, h5⟩ := h
  exact ⟨A, c, u, hf.block h1 (hd _ h3 (blk_lt h1)), h2, h3, Kd.F_step h4 (fun k hk hlt => hf.k.2 k hlt (hd k hk.1.1 hlt)), Kd.N_step h5 (fun k hk hlt => hf.k.2 k hlt (hd k hk.1 hlt))⟩
theorem Hs.below (h : Hs W g S an hs) (hb : Below W.heap.size W W1) : Hs W1 g S an hs := h.frame (Fr.of_below hb (fun _ => False)) (fun _ _ _ h => h)
end
end Go.Proofs.Ytmofdpkddimmlaa.ETrace
