/-
  GlobalActs' argument, opened.
-/
import Derived.Test.YtddfoogbakiojaaEGlobActs
import Derived.Test.YtddfoogbakiojaaWOpen2
namespace Go.Proofs.Ytddfoogbakiojaa.EGlob
open Go Go.RowKit Go.Proofs.Ytddfoogbakiojaa.F Go.Proofs.Ytddfoogbakiojaa.PureVals Go.Proofs.YtddfoogbakiojaaW.Open2 Go.Proofs.YtddfoogbakiojaaW.PrintWords
section
variable {H : Type} {enc : TypeId × Value → H} {w : World} {base : Nat} {spare : Nat → Bool} {held : Bool}
theorem o29 : Opens enc Try.prog w base spare held 29 (Kd.pair (Kd.int .i64) (Kd.int .i64)) (fun _ => True) :=
  (Opens.struct Try.underlying29 (FieldsOpen.cons (Opens.int Try.underlying3) rfl (FieldsOpen.last (Opens.int Try.underlying3) (by kernel_rfl) (by kernel_rfl)))).mono fun _ _ => trivial
theorem o42 : Opens enc Try.prog w base spare held 42 kA (fun _ => True) :=
  ((Opens.struct (d := Kd.pair (Kd.int .i64) (Kd.pair (Kd.int .i64) (Kd.pair (Kd.pair (Kd.int .i64) (Kd.int .i64)) Kd.bool))) Try.underlying42 (FieldsOpen.cons (Opens.int Try.underlying3) rfl (FieldsOpen.cons (Opens.int Try.underlying3) (by kernel_rfl) (FieldsOpen.cons o29 (by kernel_rfl) (FieldsOpen.last (Opens.bool Try.underlying4) (by kernel_rfl) (by kernel_rfl)))))).iso (fun a : Act => (a.kind, a.k, (a.ty, a.bits), a.mt)) (fun p => ⟨p.1, p.2.1, p.2.2.1.1, p.2.2.1.2, p.2.2.2⟩) (fun _ => rfl)).mono fun _ _ => trivial
theorem o35 : Opens enc Try.prog w base spare held 35 (Kd.slice 42 kA) (fun _ => True) := (Opens.slice Try.underlying35 (by kernel_rfl) (by kernel_rfl) o42 (B := 40)).mono fun _ _ => trivial
end
theorem acts_row {w : World} {acts : List Act} {cv : List Value} (h : (Kd.slice 42 kA).K w acts cv) : Calls Try.prog 5 #[cv.headD undef] w fun e w' => e = .returned (.bool true) ∧ Below w.heap.size w w' := by
  obtain ⟨A, n, rfl, l, g⟩ := h
  exact acts_calls g l
end Go.Proofs.Ytddfoogbakiojaa.EGlob
