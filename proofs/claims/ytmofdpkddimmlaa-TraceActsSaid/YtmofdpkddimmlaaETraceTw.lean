/-
  Two hosts side by side.
-/
import Derived.Test.YtmofdpkddimmlaaETraceOwn
import Derived.Test.YtmofdpkddimmlaaETraceLend
namespace Go.Proofs.Ytmofdpkddimmlaa.ETrace
open Go Go.RowKit Go.Proofs.Ytmofdpkddimmlaa.F Go.Proofs.Ytmofdpkddimmlaa.PureVals Go.Proofs.YtmofdpkddimmlaaW.Hand Go.Proofs.YtmofdpkddimmlaaW.PrintWords Go.Proofs.YtmofdpkddimmlaaW.PrintLast Go.Proofs.YtmofdpkddimmlaaW.PrintMore
set_option linter.unusedVariables false
set_option linter.unusedSimpArgs false
/-- The caller holds the blocks of P; two hosts lie elsewhere, apart from each other. -/
def Tw (w0 W : World) (g gr : Nat) (P : Nat → Prop) (an1 : List (List S56)) (hs1 : List Hd) (an2 : List (List S56)) (hs2 : List Hd) : Prop :=
  ∃ Z1 Z2 : Nat → Prop, Hs W g Z1 an1 hs1 ∧ Rs W gr Z2 an2 hs2 ∧ (∀ k, Z1 k → ¬ Z2 k ∧ ¬ P k ∧ w0.heap.size ≤ k ∧ k < W.heap.size) ∧ (∀ k, Z2 k → ¬ P k ∧ w0.heap.size ≤ k ∧ k < W.heap.size) ∧ (∀ k, P k → k < W.heap.size) ∧ (∀ k, k < w0.heap.size → P k) ∧ Below w0.heap.size w0 W
section
variable {w0 W W1 : World} {g gr : Nat} {P Q T : Nat → Prop} {an1 an2 an' : List (List S56)} {hs1 hs2 hs' : List Hd}
theorem Tw.all (h : Tw w0 W g gr P an1 hs1 an2 hs2) : Below w0.heap.size w0 W := by
  obtain ⟨Z1, Z2, _, _, _, _, _, _, h⟩ := h
  exact h
theorem Tw.framed (h : Tw w0 W g gr P an1 hs1 an2 hs2) (hf : Fr W W1 T) (hT : ∀ k, T k → P k ∧ w0.heap.size ≤ k) : Tw w0 W1 g gr P an1 hs1 an2 hs2 := by
  obtain ⟨Z1, Z2, h1, h2, a1, a2, a3, a4, a5⟩ := h
  exact ⟨Z1, Z2, h1.frame hf (fun k hk _ ht => (a1 k hk).2.1 (hT k ht).1), h2.frame hf (fun k hk _ ht => (a2 k hk).1 (hT k ht).1),
    fun k hk => ⟨(a1 k hk).1, (a1 k hk).2.1, (a1 k hk).2.2.1, Nat.lt_of_lt_of_le (a1 k hk).2.2.2 hf.size⟩, fun k hk => ⟨(a2 k hk).1, (a2 k hk).2.1, Nat.lt_of_lt_of_le (a2 k hk).2.2 hf.size⟩,
    fun k hk => Nat.lt_of_lt_of_le (a3 k hk) hf.size, a4, ((Fr.of_below a5 (fun k => w0.heap.size ≤ k)).then_ hf (fun k hk => .inl (hT k hk).2)).to_below (fun k hk => hk)⟩
theorem Tw.below (h : Tw w0 W g gr P an1 hs1 an2 hs2) (hb : Below W.heap.size W W1) : Tw w0 W1 g gr P an1 hs1 an2 hs2 := h.framed (Fr.of_below hb (fun _ => False)) (fun _ h => h.elim)
theorem Tw.guard (h : Tw w0 W g gr P an1 hs1 an2 hs2) (hb : Below W.heap.size W W1) : Tw w0 W1 g gr (fun k => P k ∨ (W.heap.size ≤ k ∧ k < W1.heap.size)) an1 hs1 an2 hs2 := by
  obtain ⟨Z1, Z2, h1, h2, a1, a2, a3, a4, a5⟩ := h
  exact ⟨Z1, Z2, h1.below hb, h2.below hb,
    fun k hk => ⟨(a1 k hk).1, fun hn => hn.elim (a1 k hk).2.1 (fun hn => by have := (a1 k hk).2.2.2; omega), (a1 k hk).2.2.1, Nat.lt_of_lt_of_le (a1 k hk).2.2.2 hb.size⟩,
    fun k hk => ⟨fun hn => hn.elim (a2 k hk).1 (fun hn => by have := (a2 k hk).2.2; omega), (a2 k hk).2.1, Nat.lt_of_lt_of_le (a2 k hk).2.2 hb.size⟩,
    fun k hk => hk.elim (fun hk => Nat.lt_of_lt_of_le (a3 k hk) hb.size) (fun hk => hk.2), fun k hk => .inl (a4 k hk), below_step a5 hb⟩
theorem Tw.less (h : Tw w0 W g gr P an1 hs1 an2 hs2) (hq : ∀ k, Q k → P k) (h0 : ∀ k, k < w0.heap.size → Q k) : Tw w0 W g gr Q an1 hs1 an2 hs2 := by
  obtain ⟨Z1, Z2, h1, h2, a1, a2, a3, a4, a5⟩ := h
  exact ⟨Z1, Z2, h1, h2, fun k hk => ⟨(a1 k hk).1, fun hn => (a1 k hk).2.1 (hq k hn), (a1 k hk).2.2⟩, fun k hk => ⟨fun hn => (a2 k hk).1 (hq k hn), (a2 k hk).2⟩, fun k hk => a3 k (hq k hk), h0, a5⟩
theorem Tw.kpb (h : Tw w0 W g gr P an1 hs1 an2 hs2) (hb : Below W.heap.size W W1) : Kp P W W1 := fun k hk => by
  obtain ⟨Z1, Z2, h1, h2, a1, a2, a3, a4, a5⟩ := h
  exact hb.block k (a3 k hk)
theorem Tw.h1 (h : Tw w0 W g gr P an1 hs1 an2 hs2) : ∃ S, Hs W g S an1 hs1 := by
  obtain ⟨Z1, Z2, h1, _⟩ := h
  exact ⟨Z1, h1⟩
theorem Tw.h2 (h : Tw w0 W g gr P an1 hs1 an2 hs2) : ∃ S, Rs W gr S an2 hs2 := by
  obtain ⟨Z1, Z2, _, h2, _⟩ := h
  exact ⟨Z2, h2⟩
/-- The first host has changed, within its zone and in new memory. -/
theorem tw_first {Z1 Z2 : Nat → Prop} {B : Nat → Prop} (h1 : Hs W1 g (fun k => (Z1 k ∨ W.heap.size ≤ k) ∧ B k) an' hs') (h2 : Rs W gr Z2 an2 hs2) (a1 : ∀ k, Z1 k → ¬ Z2 k ∧ ¬ P k ∧ w0.heap.size ≤ k ∧ k < W.heap.size) (a2 : ∀ k, Z2 k → ¬ P k ∧ w0.heap.size ≤ k ∧ k < W.heap.size) (a3 : ∀ k, P k → k < W.heap.size) (a4 : ∀ k, k < w0.heap.size → P k) (a5 : Below w0.heap.size w0 W) (hf : Fr W W1 Z1)
    (hB : ∀ k, Q k → P k ∨ (¬ B k ∧ W.heap.size ≤ k ∧ k < W1.heap.size)) (hB' : ∀ k, P k → Q k) : Tw w0 W1 g gr Q an' hs' an2 hs2 := by
  refine ⟨fun k => ((Z1 k ∨ W.heap.size ≤ k) ∧ B k) ∧ k < W1.heap.size, Z2, h1.bound, h2.frame hf (fun k hk _ ht => (a1 k ht).1 hk), ?_, ?_, ?_, fun k hk => hB' k (a4 k hk), ?_⟩
  · intro k hk
    refine ⟨fun hz => ?_, fun hq => ?_, ?_, hk.2⟩
    · rcases hk.1.1 with h | h
      · exact (a1 k h).1 hz
      · have := (a2 k hz).2.2; omega
    · rcases hB k hq with hp | hp
      · rcases hk.1.1 with h | h
        · exact (a1 k h).2.1 hp
        · have := a3 k hp; omega
      · exact hp.1 hk.1.2
    · rcases hk.1.1 with h | h
      · exact (a1 k h).2.2.1
      · exact Nat.le_trans a5.size h
  · intro k hk
    refine ⟨fun hq => ?_, (a2 k hk).2.1, Nat.lt_of_lt_of_le (a2 k hk).2.2 hf.size⟩
    rcases hB k hq with hp | hp
    · exact (a2 k hk).1 hp
    · have := (a2 k hk).2.2; omega
  · intro k hk
    rcases hB k hk with hp | hp
    · exact Nat.lt_of_lt_of_le (a3 k hp) hf.size
    · exact hp.2.2
  · exact ((Fr.of_below a5 (fun k => w0.heap.size ≤ k)).then_ hf (fun k hk => .inl (a1 k hk).2.2.1)).to_below (fun k hk => hk)
theorem tw_second {Z1 Z2 : Nat → Prop} {B : Nat → Prop} (h1 : Hs W g Z1 an1 hs1) (h2 : Rs W1 gr (fun k => (Z2 k ∨ W.heap.size ≤ k) ∧ B k) an' hs') (a1 : ∀ k, Z1 k → ¬ Z2 k ∧ ¬ P k ∧ w0.heap.size ≤ k ∧ k < W.heap.size) (a2 : ∀ k, Z2 k → ¬ P k ∧ w0.heap.size ≤ k ∧ k < W.heap.size) (a3 : ∀ k, P k → k < W.heap.size) (a4 : ∀ k, k < w0.heap.size → P k) (a5 : Below w0.heap.size w0 W) (hf : Fr W W1 Z2)
    (hB : ∀ k, Q k → P k ∨ (¬ B k ∧ W.heap.size ≤ k ∧ k < W1.heap.size)) (hB' : ∀ k, P k → Q k) : Tw w0 W1 g gr Q an1 hs1 an' hs' := by
  refine ⟨Z1, fun k => ((Z2 k ∨ W.heap.size ≤ k) ∧ B k) ∧ k < W1.heap.size, h1.frame hf (fun k hk _ ht => (a1 k hk).1 ht), h2.bound, ?_, ?_, ?_, fun k hk => hB' k (a4 k hk), ?_⟩
  · intro k hk
    refine ⟨fun hz => ?_, fun hq => ?_, (a1 k hk).2.2.1, Nat.lt_of_lt_of_le (a1 k hk).2.2.2 hf.size⟩
    · rcases hz.1.1 with h | h
      · exact (a1 k hk).1 h
      · have := (a1 k hk).2.2.2; omega
    · rcases hB k hq with hp | hp
      · exact (a1 k hk).2.1 hp
      · have := (a1 k hk).2.2.2; omega
  · intro k hk
    refine ⟨fun hq => ?_, ?_, hk.2⟩
    · rcases hB k hq with hp | hp
      · rcases hk.1.1 with h | h
        · exact (a2 k h).1 hp
        · have := a3 k hp; omega
      · exact hp.1 hk.1.2
    · rcases hk.1.1 with h | h
      · exact (a2 k h).2.1
      · exact Nat.le_trans a5.size h
  · intro k hk
    rcases hB k hk with hp | hp
    · exact Nat.lt_of_lt_of_le (a3 k hp) hf.size
    · exact hp.2.2
  · exact ((Fr.of_below a5 (fun k => w0.heap.size ≤ k)).then_ hf (fun k hk => .inl (a2 k hk).2.1)).to_below (fun k hk => hk)
end
theorem twh_none {w0 w : World} {g gr : Nat} {P : Nat → Prop} {an2 : List (List S56)} {hs1 hs2 : List Hd} {f : Int} {Ap Ar B : Option Addr} {np cp cr c : Nat} {rs : List Int} {args : List S56} (h : Tw w0 w g gr P [] hs1 an2 hs2) (hf : 0 ≤ f) (hlen : hs1.length ≤ 1000) (hr : Kd.F (Kd.int .i64) w P Ar rs.length rs) (hcr : rs.length ≤ cr) (ha : k56.C w B args.length args) (has : args.length * 16 ≤ 140737488351232) :
    Calls Try.prog 17 #[.pointer (some ⟨g, 0, none⟩), .int .i64 f, .agg #[.slice Ap np cp, .slice Ar rs.length cr], .slice B args.length c] w fun e w' => e = .returned (.tuple #[.slice none 0 0, .int .i64 1101]) ∧ Tw w0 w' g gr P [] (hs1 ++ [⟨f, args⟩]) an2 hs2 ∧ Kp P w w' ∧ w.heap.size ≤ w'.heap.size := by
  obtain ⟨Z1, Z2, h1, h2, a1, a2, a3, a4, a5⟩ := h
  have hr' : Kd.F (Kd.int .i64) w (fun k => ¬ Z1 k) Ar rs.length rs := Kd.F_mono hr (fun k hk hn => (a1 k hn).2.1 hk)
  refine (call_none (an := []) (vs := []) (Ap := Ap) (np := np) (cp := cp) h1 hf hlen hr' hcr ha has).mono ?_
  rintro e w' ⟨rfl, hH, hF⟩
  exact ⟨rfl, tw_first (B := fun _ => True) (hH.mono (fun k hk => ⟨hk, trivial⟩)) h2 a1 a2 a3 a4 a5 hF (fun k hk => .inl hk) (fun k hk => hk), fun k hk => hF.k.2 k (a3 k hk) (fun hn => (a1 k hn).2.1 hk), hF.size⟩
theorem twh_wrong {w0 w : World} {g gr : Nat} {P : Nat → Prop} {an an2 : List (List S56)} {hs1 hs2 : List Hd} {vs : List S56} {f : Int} {Ap Ar B : Option Addr} {np cp cr c : Nat} {rs : List Int} {args : List S56} (h : Tw w0 w g gr P (vs :: an) hs1 an2 hs2) (hf : 0 ≤ f) (hlen : hs1.length ≤ 1000) (hr : Kd.F (Kd.int .i64) w P Ar rs.length rs) (hcr : rs.length ≤ cr) (ha : k56.C w B args.length args) (has : args.length * 16 ≤ 140737488351232) (hfit : fitV rs vs = false) :
    Calls Try.prog 17 #[.pointer (some ⟨g, 0, none⟩), .int .i64 f, .agg #[.slice Ap np cp, .slice Ar rs.length cr], .slice B args.length c] w fun e w' => e = .returned (.tuple #[.slice none 0 0, .int .i64 1102]) ∧ Tw w0 w' g gr P an (hs1 ++ [⟨f, args⟩]) an2 hs2 ∧ Kp P w w' ∧ w.heap.size ≤ w'.heap.size := by
  obtain ⟨Z1, Z2, h1, h2, a1, a2, a3, a4, a5⟩ := h
  have hr' : Kd.F (Kd.int .i64) w (fun k => ¬ Z1 k) Ar rs.length rs := Kd.F_mono hr (fun k hk hn => (a1 k hn).2.1 hk)
  refine (call_wrong (an := an) (Ap := Ap) (np := np) (cp := cp) h1 hf hlen hr' hcr ha has hfit).mono ?_
  rintro e w' ⟨rfl, hH, hF⟩
  exact ⟨rfl, tw_first (B := fun _ => True) (hH.mono (fun k hk => ⟨hk, trivial⟩)) h2 a1 a2 a3 a4 a5 hF (fun k hk => .inl hk) (fun k hk => hk), fun k hk => hF.k.2 k (a3 k hk) (fun hn => (a1 k hn).2.1 hk), hF.size⟩
theorem twh_ok {w0 w : World} {g gr : Nat} {P : Nat → Prop} {an an2 : List (List S56)} {hs1 hs2 : List Hd} {vs : List S56} {f : Int} {Ap Ar B : Option Addr} {np cp cr c : Nat} {rs : List Int} {args : List S56} (h : Tw w0 w g gr P (vs :: an) hs1 an2 hs2) (hf : 0 ≤ f) (hlen : hs1.length ≤ 1000) (hr : Kd.F (Kd.int .i64) w P Ar rs.length rs) (hcr : rs.length ≤ cr) (ha : k56.C w B args.length args) (has : args.length * 16 ≤ 140737488351232) (hfit : fitV rs vs = true) (hvs : vs.length * 16 ≤ 140737488351232) :
    Calls Try.prog 17 #[.pointer (some ⟨g, 0, none⟩), .int .i64 f, .agg #[.slice Ap np cp, .slice Ar rs.length cr], .slice B args.length c] w fun e w' => ∃ A' c' m, e = .returned (.tuple #[.slice A' vs.length c', .int .i64 0]) ∧ Tw w0 w' g gr (fun k => P k ∨ (m ≤ k ∧ k < w'.heap.size)) an (hs1 ++ [⟨f, args⟩]) an2 hs2 ∧ w.heap.size ≤ m ∧ k56.R 56 w' m (fun k => m ≤ k ∧ k < w'.heap.size) (.slice A' vs.length c') vs ∧ Kp P w w' := by
  obtain ⟨Z1, Z2, h1, h2, a1, a2, a3, a4, a5⟩ := h
  have hr' : Kd.F (Kd.int .i64) w (fun k => ¬ Z1 k) Ar rs.length rs := Kd.F_mono hr (fun k hk hn => (a1 k hn).2.1 hk)
  refine (call_ok (an := an) (Ap := Ap) (np := np) (cp := cp) h1 hf hlen hr' hcr ha has hfit hvs).mono ?_
  rintro e w' ⟨A', c', m, rfl, hm, hH, hR, hF⟩
  exact ⟨A', c', m, rfl, tw_first (B := fun k => k < m) (hH) h2 a1 a2 a3 a4 a5 hF (fun k hk => hk.elim .inl (fun hk => .inr ⟨by omega, Nat.le_trans hm hk.1, hk.2⟩)) (fun k hk => .inl hk), hm, Kd.R_mono (Kd.R_bound hR) (fun k hk => ⟨hk.1, hk.2.2.1⟩), fun k hk => hF.k.2 k (a3 k hk) (fun hn => (a1 k hn).2.1 hk)⟩
theorem twr_none {w0 w : World} {g gr : Nat} {P : Nat → Prop} {an1 : List (List S56)} {hs1 hs2 : List Hd} {f : Int} {Ap Ar B : Option Addr} {np cp cr c : Nat} {rs : List Int} {args : List S56} (h : Tw w0 w g gr P an1 hs1 [] hs2) (hf : 0 ≤ f) (hlen : hs2.length ≤ 1000) (hr : Kd.F (Kd.int .i64) w P Ar rs.length rs) (hcr : rs.length ≤ cr) (ha : k56.C w B args.length args) (has : args.length * 16 ≤ 140737488351232) :
    Calls Try.prog 18 #[.pointer (some ⟨gr, 0, none⟩), .int .i64 f, .agg #[.slice Ap np cp, .slice Ar rs.length cr], .slice B args.length c] w fun e w' => e = .returned (.tuple #[.slice none 0 0, .int .i64 1101]) ∧ Tw w0 w' g gr P an1 hs1 [] (hs2 ++ [⟨f, args⟩]) ∧ Kp P w w' ∧ w.heap.size ≤ w'.heap.size := by
  obtain ⟨Z1, Z2, h1, h2, a1, a2, a3, a4, a5⟩ := h
  have hr' : Kd.F (Kd.int .i64) w (fun k => ¬ Z2 k) Ar rs.length rs := Kd.F_mono hr (fun k hk hn => (a2 k hn).1 hk)
  refine (callR_none (an := []) (vs := []) (Ap := Ap) (np := np) (cp := cp) h2 hf hlen hr' hcr ha has).mono ?_
  rintro e w' ⟨rfl, hH, hF⟩
  exact ⟨rfl, tw_second (B := fun _ => True) h1 (hH.mono (fun k hk => ⟨hk, trivial⟩)) a1 a2 a3 a4 a5 hF (fun k hk => .inl hk) (fun k hk => hk), fun k hk => hF.k.2 k (a3 k hk) (fun hn => (a2 k hn).1 hk), hF.size⟩
theorem twr_wrong {w0 w : World} {g gr : Nat} {P : Nat → Prop} {an an1 : List (List S56)} {hs1 hs2 : List Hd} {vs : List S56} {f : Int} {Ap Ar B : Option Addr} {np cp cr c : Nat} {rs : List Int} {args : List S56} (h : Tw w0 w g gr P an1 hs1 (vs :: an) hs2) (hf : 0 ≤ f) (hlen : hs2.length ≤ 1000) (hr : Kd.F (Kd.int .i64) w P Ar rs.length rs) (hcr : rs.length ≤ cr) (ha : k56.C w B args.length args) (has : args.length * 16 ≤ 140737488351232) (hal : an.length * 24 ≤ 140737488351232) (hfit : fitV rs vs = false) :
    Calls Try.prog 18 #[.pointer (some ⟨gr, 0, none⟩), .int .i64 f, .agg #[.slice Ap np cp, .slice Ar rs.length cr], .slice B args.length c] w fun e w' => e = .returned (.tuple #[.slice none 0 0, .int .i64 1102]) ∧ Tw w0 w' g gr P an1 hs1 an (hs2 ++ [⟨f, args⟩]) ∧ Kp P w w' ∧ w.heap.size ≤ w'.heap.size := by
  obtain ⟨Z1, Z2, h1, h2, a1, a2, a3, a4, a5⟩ := h
  have hr' : Kd.F (Kd.int .i64) w (fun k => ¬ Z2 k) Ar rs.length rs := Kd.F_mono hr (fun k hk hn => (a2 k hn).1 hk)
  refine (callR_wrong (an := an) (Ap := Ap) (np := np) (cp := cp) h2 hf hlen hr' hcr ha has hal hfit).mono ?_
  rintro e w' ⟨rfl, hH, hF⟩
  exact ⟨rfl, tw_second (B := fun _ => True) h1 (hH.mono (fun k hk => ⟨hk, trivial⟩)) a1 a2 a3 a4 a5 hF (fun k hk => .inl hk) (fun k hk => hk), fun k hk => hF.k.2 k (a3 k hk) (fun hn => (a2 k hn).1 hk), hF.size⟩
theorem twr_ok {w0 w : World} {g gr : Nat} {P : Nat → Prop} {an an1 : List (List S56)} {hs1 hs2 : List Hd} {vs : List S56} {f : Int} {Ap Ar B : Option Addr} {np cp cr c : Nat} {rs : List Int} {args : List S56} (h : Tw w0 w g gr P an1 hs1 (vs :: an) hs2) (hf : 0 ≤ f) (hlen : hs2.length ≤ 1000) (hr : Kd.F (Kd.int .i64) w P Ar rs.length rs) (hcr : rs.length ≤ cr) (ha : k56.C w B args.length args) (has : args.length * 16 ≤ 140737488351232) (hal : an.length * 24 ≤ 140737488351232) (hfit : fitV rs vs = true) (hvs : vs.length * 16 ≤ 140737488351232) :
    Calls Try.prog 18 #[.pointer (some ⟨gr, 0, none⟩), .int .i64 f, .agg #[.slice Ap np cp, .slice Ar rs.length cr], .slice B args.length c] w fun e w' => ∃ A' c' m, e = .returned (.tuple #[.slice A' vs.length c', .int .i64 0]) ∧ Tw w0 w' g gr (fun k => P k ∨ (m ≤ k ∧ k < w'.heap.size)) an1 hs1 an (hs2 ++ [⟨f, args⟩]) ∧ w.heap.size ≤ m ∧ k56.R 56 w' m (fun k => m ≤ k ∧ k < w'.heap.size) (.slice A' vs.length c') vs ∧ Kp P w w' := by
  obtain ⟨Z1, Z2, h1, h2, a1, a2, a3, a4, a5⟩ := h
  have hr' : Kd.F (Kd.int .i64) w (fun k => ¬ Z2 k) Ar rs.length rs := Kd.F_mono hr (fun k hk hn => (a2 k hn).1 hk)
  refine (callR_ok (an := an) (Ap := Ap) (np := np) (cp := cp) h2 hf hlen hr' hcr ha has hal hfit hvs).mono ?_
  rintro e w' ⟨A', c', m, rfl, hm, hH, hR, hF⟩
  exact ⟨A', c', m, rfl, tw_second (B := fun k => k < m) h1 (hH) a1 a2 a3 a4 a5 hF (fun k hk => hk.elim .inl (fun hk => .inr ⟨by omega, Nat.le_trans hm hk.1, hk.2⟩)) (fun k hk => .inl hk), hm, Kd.R_mono (Kd.R_bound hR) (fun k hk => ⟨hk.1, hk.2.2.1⟩), fun k hk => hF.k.2 k (a3 k hk) (fun hn => (a2 k hn).1 hk)⟩
end Go.Proofs.Ytmofdpkddimmlaa.ETrace
