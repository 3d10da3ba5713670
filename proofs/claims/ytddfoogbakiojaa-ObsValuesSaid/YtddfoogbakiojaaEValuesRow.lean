/-
  obs.Values' statement, from arguments as they are opened.
-/
import Derived.Test.YtddfoogbakiojaaEValues
import Derived.Test.YtddfoogbakiojaaWOpen2
namespace Go.Proofs.Ytddfoogbakiojaa.EObs
open Go Go.RowKit Go.Proofs.Ytddfoogbakiojaa.F Go.Proofs.Ytddfoogbakiojaa.PureObs Go.Proofs.YtddfoogbakiojaaW.Open2 Go.Proofs.YtddfoogbakiojaaW.PrintWords
set_option linter.unusedVariables false
def kFT : Kd (List Int × List Int) := Kd.pair (Kd.slice 3 (Kd.int .i64)) (Kd.slice 3 (Kd.int .i64))
section
variable {H : Type} {enc : TypeId × Value → H} {w : World} {base : Nat} {spare : Nat → Bool} {held : Bool}
theorem o29 : Opens enc Try.prog w base spare held 29 k29 (fun _ => True) :=
  (((Opens.struct (d := Kd.pair (Kd.int .i64) (Kd.int .i64)) Try.underlying29 (FieldsOpen.cons (Opens.int Try.underlying3) rfl (FieldsOpen.last (Opens.int Try.underlying3) (by kernel_rfl) (by kernel_rfl)))).iso (fun x : S29 => (x.f0, x.f1)) (fun p => ⟨p.1, p.2⟩) (fun _ => rfl))).mono fun _ _ => trivial
theorem o37 : Opens enc Try.prog w base spare held 37 (Kd.slice 29 k29) (fun xs => xs.length * 16 ≤ 140737488351232) := (Opens.slice Try.underlying37 (by kernel_rfl) (by kernel_rfl) o29).mono fun _ h => h.1
theorem o55 : Opens enc Try.prog w base spare held 55 (Kd.slice 3 (Kd.int .i64)) (fun xs => xs.length * 8 ≤ 140737488351232) := (Opens.slice Try.underlying55 (by kernel_rfl) (by kernel_rfl) (Opens.int Try.underlying3)).mono fun _ h => h.1
theorem o62 : Opens enc Try.prog w base spare held 62 kFT (fun _ => True) :=
  (Opens.struct Try.underlying62 (FieldsOpen.cons o55 rfl (FieldsOpen.last o55 (by kernel_rfl) (by kernel_rfl)))).mono fun _ _ => trivial
end
theorem obsValues_row {w : World} {t : List Int × List Int} {vs : List S29} {ct cv : List Value} (h0 : kFT.K w t ct) (h1 : (Kd.slice 29 k29).K w vs cv) (hs : vs.length * 16 ≤ 140737488351232) :
    Calls Try.prog 8 #[.agg ct.toArray, cv.headD undef] w fun e w' => e = .returned (.bool true) ∧ Below w.heap.size w w' := by
  obtain ⟨c0, c1, rfl, ⟨A0, n0, rfl, l0, g0⟩, ⟨A1, n1, rfl, l1, g1⟩⟩ := h0
  obtain ⟨A2, n2, rfl, l2, g2⟩ := h1
  exact obsValues_calls g0 l0 g1 l1 g2 l2 hs
end Go.Proofs.Ytddfoogbakiojaa.EObs
