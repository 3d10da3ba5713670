/-
  A host's contracts, seen by one who holds other blocks.
-/
import Derived.Test.YtmofdpkddimmlaaETraceNew
namespace Go.Proofs.Ytmofdpkddimmlaa.ETrace
open Go Go.RowKit Go.Proofs.Ytmofdpkddimmlaa.F Go.Proofs.Ytmofdpkddimmlaa.PureVals Go.Proofs.YtmofdpkddimmlaaW.Hand Go.Proofs.YtmofdpkddimmlaaW.PrintWords Go.Proofs.YtmofdpkddimmlaaW.PrintLast Go.Proofs.YtmofdpkddimmlaaW.PrintMore
set_option linter.unusedVariables false
set_option linter.unusedSimpArgs false
/-- The caller holds the blocks of P; the host lies elsewhere. -/
def Pr (w0 W : World) (g : Nat) (P : Nat → Prop) (an : List (List S56)) (hs : List Hd) : Prop := Hs W g (fun k => ¬ P k) an hs ∧ (∀ k, P k → k < W.heap.size) ∧ (∀ k, k < w0.heap.size → P k) ∧ Below w0.heap.size w0 W
def Kp (P : Nat → Prop) (W W1 : World) : Prop := ∀ k, P k → W1.heap[k]? = W.heap[k]?
section
variable {w0 w1 W W1 : World} {g : Nat} {P : Nat → Prop} {an an' : List (List S56)} {hs hs' : List Hd}
theorem Pr.start (h : Hs W g (fun k => w1.heap.size ≤ k) an hs) (hb : Below w0.heap.size w0 w1) (hb' : Below w1.heap.size w1 W) : Pr w0 W g (fun k => k < w0.heap.size) an hs :=
  ⟨h.mono (fun k hk hn => by have := hb.size; omega), fun k hk => by have := hb.size; have := hb'.size; omega, fun k hk => hk, below_step hb hb'⟩
theorem Pr.below (h : Pr w0 W g P an hs) (hb : Below W.heap.size W W1) : Pr w0 W1 g P an hs := ⟨h.1.below hb, fun k hk => Nat.lt_of_lt_of_le (h.2.1 k hk) hb.size, h.2.2.1, below_step h.2.2.2 hb⟩
/-- What the caller has made since is held too. -/
theorem Pr.guard (h : Pr w0 W g P an hs) (hb : Below W.heap.size W W1) : Pr w0 W1 g (fun k => P k ∨ (W.heap.size ≤ k ∧ k < W1.heap.size)) an hs :=
  ⟨(h.1.bound.below hb).mono (fun k hk hn => hn.elim hk.1 (fun hn => by have := hk.2; omega)), fun k hk => hk.elim (fun hk => Nat.lt_of_lt_of_le (h.2.1 k hk) hb.size) (fun hk => hk.2), fun k hk => .inl (h.2.2.1 k hk), below_step h.2.2.2 hb⟩
theorem Pr.of_fr (h : Pr w0 W g P an hs) (h1 : Hs W1 g (fun k => ¬ P k ∨ W.heap.size ≤ k) an' hs') (hf : Fr W W1 (fun k => ¬ P k)) : Pr w0 W1 g P an' hs' :=
  ⟨h1.mono (fun k hk hp => hk.elim (fun hn => hn hp) (fun hn => by have := h.2.1 k hp; omega)), fun k hk => Nat.lt_of_lt_of_le (h.2.1 k hk) hf.size, h.2.2.1,
   ((Fr.of_below h.2.2.2 (fun k => w0.heap.size ≤ k)).then_ (hf.mono (S2 := fun k => w0.heap.size ≤ k) (fun k hn => by by_cases hlt : k < w0.heap.size; exact absurd (h.2.2.1 k hlt) hn; omega)) (fun k hk => .inl hk)).to_below (fun k hk => hk)⟩
theorem Pr.host (h : Pr w0 W g P an hs) : Hs W g (fun k => ¬ P k) an hs := h.1
theorem Pr.all (h : Pr w0 W g P an hs) : Below w0.heap.size w0 W := h.2.2.2
theorem Pr.kp (h : Pr w0 W g P an hs) (hf : Fr W W1 (fun k => ¬ P k)) : Kp P W W1 := fun k hk => hf.k.2 k (h.2.1 k hk) (fun hn => hn hk)
theorem Pr.kpb (h : Pr w0 W g P an hs) (hb : Below W.heap.size W W1) : Kp P W W1 := fun k hk => hb.block k (h.2.1 k hk)
theorem Kp.F {α : Type} {d : Kd α} {A : Option Addr} {n : Nat} {xs : List α} {Q : Nat → Prop} (hk : Kp P W W1) (h : Kd.F d W Q A n xs) (hq : ∀ k, Q k → P k) : Kd.F d W1 Q A n xs := Kd.F_step h (fun k hk' _ => hk k (hq k hk'))
theorem Kp.blk {k : Nat} {o : Obj} (hk : Kp P W W1) (h : W.heap[k]? = some o) (hp : P k) : W1.heap[k]? = some o := (hk k hp).trans h
theorem Kp.mono {Q : Nat → Prop} (hk : Kp P W W1) (hq : ∀ k, Q k → P k) : Kp Q W W1 := fun k hk' => hk k (hq k hk')
theorem Kp.trans {W2 : World} (hk : Kp P W W1) (hk' : Kp P W1 W2) : Kp P W W2 := fun k h => (hk' k h).trans (hk k h)
theorem Kp.refl (P : Nat → Prop) (W : World) : Kp P W W := fun _ _ => rfl
end
theorem same_calls {W : World} {A B : Option Addr} {a b : List S56} {c d : Nat} (h1 : k56.C W A a.length a) (hc : a.length ≤ c) (h2 : k56.C W B b.length b) (hd : b.length ≤ d) : Calls Try.prog 19 #[.slice A a.length c, .slice B b.length d] W fun e w' => e = .returned (.bool (decide (a = b))) ∧ Below W.heap.size W w' := by
  obtain ⟨k, hk⟩ := (sameVals_ev a b (Kd.C_max h1)).rounds
  exact (peloruslaw0_SameVals.calls k _ _ _ _ _ _ _ W h1 hc h2 hd hk).mono fun _ _ hh => ⟨hh.1, by first | exact hh.2 | exact hh.2.below⟩
theorem pcall_none {w0 w : World} {g : Nat} {P : Nat → Prop} {hs : List Hd} {f : Int} {Ap Ar B : Option Addr} {np cp cr c : Nat} {rs : List Int} {args : List S56} (h : Pr w0 w g P [] hs) (hf : 0 ≤ f) (hlen : hs.length ≤ 1000) (hr : Kd.F (Kd.int .i64) w P Ar rs.length rs) (hcr : rs.length ≤ cr) (ha : k56.C w B args.length args) (has : args.length * 16 ≤ 140737488351232) :
    Calls Try.prog 17 #[.pointer (some ⟨g, 0, none⟩), .int .i64 f, .agg #[.slice Ap np cp, .slice Ar rs.length cr], .slice B args.length c] w fun e w' => e = .returned (.tuple #[.slice none 0 0, .int .i64 1101]) ∧ Pr w0 w' g P [] (hs ++ [⟨f, args⟩]) ∧ Kp P w w' := by
  have hr' : Kd.F (Kd.int .i64) w (fun k => ¬ (¬ P k)) Ar rs.length rs := Kd.F_mono hr (fun k hk hn => hn hk)
  exact (call_none (an := []) (vs := []) (Ap := Ap) (np := np) (cp := cp) h.1 hf hlen hr' hcr ha has).mono fun e w' hh => ⟨hh.1, h.of_fr hh.2.1 hh.2.2, h.kp hh.2.2⟩
theorem pcall_wrong {w0 w : World} {g : Nat} {P : Nat → Prop} {an : List (List S56)} {hs : List Hd} {vs : List S56} {f : Int} {Ap Ar B : Option Addr} {np cp cr c : Nat} {rs : List Int} {args : List S56} (h : Pr w0 w g P (vs :: an) hs) (hf : 0 ≤ f) (hlen : hs.length ≤ 1000) (hr : Kd.F (Kd.int .i64) w P Ar rs.length rs) (hcr : rs.length ≤ cr) (ha : k56.C w B args.length args) (has : args.length * 16 ≤ 140737488351232) (hfit : fitV rs vs = false) :
    Calls Try.prog 17 #[.pointer (some ⟨g, 0, none⟩), .int .i64 f, .agg #[.slice Ap np cp, .slice Ar rs.length cr], .slice B args.length c] w fun e w' => e = .returned (.tuple #[.slice none 0 0, .int .i64 1102]) ∧ Pr w0 w' g P an (hs ++ [⟨f, args⟩]) ∧ Kp P w w' := by
  have hr' : Kd.F (Kd.int .i64) w (fun k => ¬ (¬ P k)) Ar rs.length rs := Kd.F_mono hr (fun k hk hn => hn hk)
  exact (call_wrong (Ap := Ap) (np := np) (cp := cp) h.1 hf hlen hr' hcr ha has hfit).mono fun e w' hh => ⟨hh.1, h.of_fr hh.2.1 hh.2.2, h.kp hh.2.2⟩
theorem pcall_ok {w0 w : World} {g : Nat} {P : Nat → Prop} {an : List (List S56)} {hs : List Hd} {vs : List S56} {f : Int} {Ap Ar B : Option Addr} {np cp cr c : Nat} {rs : List Int} {args : List S56} (h : Pr w0 w g P (vs :: an) hs) (hf : 0 ≤ f) (hlen : hs.length ≤ 1000) (hr : Kd.F (Kd.int .i64) w P Ar rs.length rs) (hcr : rs.length ≤ cr) (ha : k56.C w B args.length args) (has : args.length * 16 ≤ 140737488351232) (hfit : fitV rs vs = true) (hvs : vs.length * 16 ≤ 140737488351232) :
    Calls Try.prog 17 #[.pointer (some ⟨g, 0, none⟩), .int .i64 f, .agg #[.slice Ap np cp, .slice Ar rs.length cr], .slice B args.length c] w fun e w' => ∃ A' c' m, e = .returned (.tuple #[.slice A' vs.length c', .int .i64 0]) ∧ Pr w0 w' g (fun k => P k ∨ (m ≤ k ∧ k < w'.heap.size)) an (hs ++ [⟨f, args⟩]) ∧ w.heap.size ≤ m ∧ k56.R 56 w' m (fun k => m ≤ k ∧ k < w'.heap.size) (.slice A' vs.length c') vs ∧ Kp P w w' := by
  have hr' : Kd.F (Kd.int .i64) w (fun k => ¬ (¬ P k)) Ar rs.length rs := Kd.F_mono hr (fun k hk hn => hn hk)
  refine (call_ok (Ap := Ap) (np := np) (cp := cp) h.1 hf hlen hr' hcr ha has hfit hvs).mono ?_
  rintro e w' ⟨A', c', m, rfl, hm, h1, hR, hF⟩
  have hq := h.of_fr (h1.mono (fun k hk => hk.1)) hF
  refine ⟨A', c', m, rfl, ⟨h1.mono (fun k hk hn => hn.elim (fun hp => hk.1.elim (fun hn => hn hp) (fun hl => by have := h.2.1 k hp; omega)) (fun hn => by have := hk.2; omega)), fun k hk => hk.elim (hq.2.1 k) (fun hk => hk.2), fun k hk => .inl (hq.2.2.1 k hk), hq.2.2.2⟩, hm, Kd.R_mono (Kd.R_bound hR) (fun k hk => ⟨hk.1, hk.2.2.1⟩), h.kp hF⟩
theorem FK_val {W : World} {x y : Int} {ok : Nat → Prop} : Kd.FK k56 W ok (⟨x, y⟩ : S56) [.int .i64 x, .int .i64 y] := fun W' _ => k56_mk W' ⟨x, y⟩
theorem FK_int {W : World} {x : Int} {ok : Nat → Prop} : Kd.FK (Kd.int .i64) W ok x [.int .i64 x] := fun W' _ => rfl
theorem F_val {W : World} {g : Nat} {x y : Int} {ok : Nat → Prop} (h : W.heap[g]? = some (.cells #[.int .i64 x, .int .i64 y] 56 (0, 0))) (hg : ok g) : Kd.F k56 W ok (some ⟨g, 0, none⟩) 1 [(⟨x, y⟩ : S56)] := F_one h hg FK_val
theorem F_intr {W : World} {g : Nat} {x : Int} {t : TypeId} {ok : Nat → Prop} (h : W.heap[g]? = some (.cells #[.int .i64 x] t (0, 0))) (hg : ok g) : Kd.F (Kd.int .i64) W ok (some ⟨g, 0, none⟩) 1 [x] := F_one h hg FK_int
theorem C_two {W : World} {g n1 c1 n2 c2 : Nat} {A1 A2 : Option Addr} {a b : List S56} (h : W.heap[g]? = some (.cells #[.slice A1 n1 c1, .slice A2 n2 c2] 27 (0, 0))) (h1 : k27.K W a [.slice A1 n1 c1]) (h2 : k27.K W b [.slice A2 n2 c2]) : k27.C W (some ⟨g, 0, none⟩) 2 [a, b] := by
  refine ⟨rfl, by simp, fun _ => ⟨_, rfl, fun j p hp => ?_⟩⟩
  match j with
  | 0 =>
    obtain rfl : a = p := by simpa using hp
    refine ⟨[.slice A1 n1 c1], rfl, h1, fun i u hu => ?_⟩
    rw [add_plain, blk_cell h]
    cases i with
    | zero => simpa using hu
    | succ i => simp at hu
  | 1 =>
    obtain rfl : b = p := by simpa using hp
    refine ⟨[.slice A2 n2 c2], rfl, h2, fun i u hu => ?_⟩
    rw [add_plain, blk_cell h]
    cases i with
    | zero => simpa [show k27.sz = 1 from rfl] using hu
    | succ i => simp at hu
  | j + 2 => simp at hp
end Go.Proofs.Ytmofdpkddimmlaa.ETrace
