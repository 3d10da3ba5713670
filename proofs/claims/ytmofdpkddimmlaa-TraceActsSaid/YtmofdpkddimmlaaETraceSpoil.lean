/-
  The laws' own SpoilVals: it writes over the bits of values that lie in one block, and leaves the rest.
-/
import Derived.Test.YtmofdpkddimmlaaETraceNew
namespace Go.Proofs.Ytmofdpkddimmlaa.ETrace
open Go Go.RowKit Go.Proofs.Ytmofdpkddimmlaa.F Go.Proofs.Ytmofdpkddimmlaa.PureVals Go.Proofs.YtmofdpkddimmlaaW.Hand Go.Proofs.YtmofdpkddimmlaaW.PrintWords Go.Proofs.YtmofdpkddimmlaaW.PrintLast Go.Proofs.YtmofdpkddimmlaaW.PrintMore
set_option linter.unusedVariables false
set_option linter.unusedSimpArgs false

/-- n values lie from block g's head on. -/
def Spoils (W : World) (g : Nat) (n : Nat) : Prop := ∃ cs t, W.heap[g]? = some (.cells cs t (0, 0)) ∧ ∀ j, j < n → ∃ z, cs[j * 2 + 1]? = some (.int .i64 z)
theorem Spoils.below {w w1 : World} {g n : Nat} (h : Spoils w g n) (hb : Below w.heap.size w w1) : Spoils w1 g n := by
  obtain ⟨cs, t, h1, h2⟩ := h
  exact ⟨cs, t, blk_below h1 hb, h2⟩
theorem spoils_of_C {w : World} {g n : Nat} {xs : List S56} {cs : Array Value} {t : TypeId} (h : k56.C w (some ⟨g, 0, none⟩) xs.length xs) (hn : n ≤ xs.length) (hg : w.heap[g]? = some (.cells cs t (0, 0))) : Spoils w g n := by
  refine ⟨cs, t, hg, fun j hj => ?_⟩
  obtain ⟨ad, e, _, e2⟩ := at_T56 h (j : Int) (by omega) (by omega)
  obtain rfl := Option.some.inj e
  rw [add_plain] at e2
  simp only [Int.toNat_natCast] at e2
  rw [blk_cell hg] at e2
  exact ⟨_, e2⟩
theorem spoils_of_R {w : World} {B : Nat} {ok : Nat → Prop} {A : Option Addr} {n c : Nat} {xs : List S56} (h : k56.R 56 w B ok (.slice A n c) xs) (hp : 0 < n) : ∃ g, A = some ⟨g, 0, none⟩ ∧ ok g ∧ Spoils w g n := by
  obtain ⟨hn, _, hC⟩ := Kd.R_reads' h
  obtain ⟨g, c', e, _, _, cs, hc⟩ := Kd.R_form h (by omega)
  injection e with e _ _
  subst e
  exact ⟨g, rfl, h.1 g (by simp [Value.ownBlock]), spoils_of_C hC (by omega) hc⟩
theorem spoils_set {W W' : World} {g i : Nat} {cs : Array Value} {t : TypeId} {x : Int} (h : W.heap[g]? = some (.cells cs t (0, 0))) (h' : W'.heap[g]? = some (.cells (cs.setIfInBounds (i * 2 + 1) (.int .i64 x)) t (0, 0))) (m : Nat) (hs : Spoils W g m) : Spoils W' g m := by
  obtain ⟨cs', t', e, hz⟩ := hs
  obtain ⟨rfl, rfl⟩ : cs' = cs ∧ t' = t := by
    have := Option.some.inj (h.symm.trans e)
    injection this with e1 e2
    exact ⟨e1.symm, e2.symm⟩
  refine ⟨_, _, h', fun j hj => ?_⟩
  obtain ⟨z, hz⟩ := hz j hj
  have hlt := (Array.getElem?_eq_some_iff.1 hz).1
  rw [Array.getElem?_setIfInBounds]
  split
  · split
    · exact ⟨_, rfl⟩
    · next h1 h2 => exact absurd hlt (by omega)
  · exact ⟨z, hz⟩
def RelSp (w : World) (g len : Nat) (n : Nat) (v2 : Value) (wr : World) : Prop := ∃ i : Nat, i + n = len ∧ v2 = .int .i64 i ∧ Spoils wr g len ∧ (∀ m, Spoils w g m → Spoils wr g m) ∧ Fr w wr (fun k => k = g)
set_option maxHeartbeats 4000000 in
theorem spoil_some {w : World} {g n c : Nat} (hn : n ≤ 9223372036854775807) (h : Spoils w g n) : Calls Try.prog 16 #[.slice (some ⟨g, 0, none⟩) n c] w fun e w' => e = .returned (.tuple #[]) ∧ (∀ m, Spoils w g m → Spoils w' g m) ∧ Fr w w' (fun k => k = g) := by
  have hu56 := Try.underlying56
  have hu24 := Try.underlying24
  have H := Aside0.mk h
  clear h
  go_enter Try.func16, Try.ntmps16
  go_wp2
  go_loopg [2] n (fun m v2 wr => RelSp w g n m v2 wr)
  case atStart => exact ⟨0, by omega, rfl, H.out, fun _ h => h, Fr.refl _ _⟩
  case round =>
    obtain ⟨i, hi, rfl, ⟨cs, t, hg, hz⟩, hkp, hf⟩ := hrel
    have HKP := Aside0.mk hkp
    have HF := Aside0.mk hf
    have I3 := Aside0.mk hi
    have HZ := Aside0.mk hz
    have HG := Aside0.mk hg
    clear hf hz hg hi hkp
    by_cases hlt : i < n
    · obtain ⟨z, hz⟩ := HZ.out i hlt
      have dl : decide (i < n) = true := by simpa using hlt
      have q1 : wr.cell? ⟨g, i * 2 + 1, none⟩ = some (.int .i64 z) := (blk_cell HG.out _).trans hz
      have hsz : i * 2 + 1 < cs.size := (Array.getElem?_eq_some_iff.1 hz).1
      have HSZ := Aside0.mk hsz
      have HLT := Aside0.mk hlt
      clear hz hsz
      go_wp2_with (first
        | ((with_reducible refine gate_store (p := 18) rfl ?_); refine storeCell_event (g := g) (j := i * 2 + 1) (x := .int .i64 (bits .xor .i64 z 90)) rfl rfl rfl rfl rfl HG.out HSZ.out (by kernel_rfl) rfl ?_; intro w2 hA hb ho hs; have RZ : Aside0 (Spoils w2 g n) := ⟨_, _, hA, fun j hj => by
            rw [Array.getElem?_setIfInBounds]
            split
            · split
              · exact ⟨_, rfl⟩
              · exact absurd HSZ.out (by omega)
            · exact HZ.out j hj⟩; have KZ : Aside0 (∀ m, Spoils w g m → Spoils w2 g m) := ⟨fun m hm => spoils_set HG.out hA m (HKP.out m hm)⟩; have FZ : Aside0 (Fr w w2 (fun k => k = g)) := ⟨HF.out.then_ (Fr.stored (S := fun k => k = g) hb ho hs rfl) (fun k hk => .inl hk)⟩; clear hA hb ho hs))
      go_roundg (n - (i + 1))
      case measure => have := I3.out; have := HLT.out; omega
      case rel => exact ⟨i + 1, by have := HLT.out; omega, by go_num, RZ.out, KZ.out, FZ.out⟩
    · have dl : decide (i < n) = false := by simpa using hlt
      go_wp2
      go_end0
      exact ⟨rfl, HKP.out, HF.out⟩
theorem spoil_nil {w : World} {A : Option Addr} {c : Nat} : Calls Try.prog 16 #[.slice A 0 c] w fun e w' => e = .returned (.tuple #[]) ∧ Below w.heap.size w w' := by
  have hu24 := Try.underlying24
  go_enter Try.func16, Try.ntmps16
  go_wp2
  go_loopg [2] 0 (fun m v2 wr => v2 = .int .i64 0 ∧ wr = w)
  case atStart => exact ⟨rfl, rfl⟩
  case round =>
    obtain ⟨rfl, rfl⟩ := hrel
    go_wp2
    go_end0
    exact ⟨rfl, Below.refl _ _⟩
/-- A row of the call's own is written over. -/
theorem spoil_R {w : World} {B : Nat} {ok : Nat → Prop} {A : Option Addr} {n c : Nat} {xs : List S56} (h : k56.R 56 w B ok (.slice A n c) xs) : Calls Try.prog 16 #[.slice A n c] w fun e w' => e = .returned (.tuple #[]) ∧ Fr w w' ok := by
  rcases Nat.eq_zero_or_pos n with rfl | hp
  · exact spoil_nil.mono fun e w' ⟨h1, h2⟩ => ⟨h1, Fr.of_below h2 _⟩
  · obtain ⟨g, rfl, hok, hs⟩ := spoils_of_R h hp
    have hm : n ≤ 9223372036854775807 := by
      obtain ⟨h1, _, hC⟩ := Kd.R_reads' h
      have := Kd.C_max hC
      omega
    exact (spoil_some hm hs).mono fun e w' ⟨h1, _, h2⟩ => ⟨h1, h2.mono (fun k hk => hk ▸ hok)⟩
end Go.Proofs.Ytmofdpkddimmlaa.ETrace
