/-
  An observation handed in, opened.
-/
import Derived.Test.YtddfoogbakiojaaEObs
import Derived.Test.YtddfoogbakiojaaWOpen
namespace Go.Proofs.Ytddfoogbakiojaa.EObs
open Go Go.RowKit Go.Proofs.Ytddfoogbakiojaa.F Go.Proofs.Ytddfoogbakiojaa.PureObs Go.Proofs.YtddfoogbakiojaaW.Open Go.Proofs.YtddfoogbakiojaaW.PrintWords
section
variable {H : Type} {enc : TypeId × Value → H} {w : World} {base : Nat} {spare : Nat → Bool} {held : Bool}
theorem opens29 : Opens enc Try.prog w base spare held 29 k29 (fun _ => True) :=
  (((Opens.struct (d := Kd.pair (Kd.int .i64) (Kd.int .i64)) Try.underlying29 (FieldsOpen.cons (Opens.int Try.underlying3) rfl (FieldsOpen.last (Opens.int Try.underlying3) (by kernel_rfl) (by kernel_rfl)))).iso (fun x : S29 => (x.f0, x.f1)) (fun p => ⟨p.1, p.2⟩) (fun _ => rfl))).mono fun _ _ => trivial
theorem opens37 : Opens enc Try.prog w base spare held 37 (Kd.slice 29 k29) (fun _ => True) := (Opens.slice Try.underlying37 (by kernel_rfl) opens29).mono fun _ _ => trivial
theorem opens53 : Opens enc Try.prog w base spare held 53 k53 (fun _ => True) :=
  (((Opens.struct (d := Kd.pair (Kd.int .i64) (Kd.pair (Kd.int .i64) (Kd.slice 29 k29))) Try.underlying53 (FieldsOpen.cons (Opens.int Try.underlying3) rfl (FieldsOpen.cons (Opens.int Try.underlying3) (by kernel_rfl) (FieldsOpen.last opens37 (by kernel_rfl) (by kernel_rfl))))).iso (fun x : S53 => (x.f0, x.f1, x.f2)) (fun p => ⟨p.1, p.2.1, p.2.2⟩) (fun _ => rfl))).mono fun _ _ => trivial
theorem opens54 : Opens enc Try.prog w base spare held 54 (Kd.slice 53 k53) (fun _ => True) := (Opens.slice Try.underlying54 (by kernel_rfl) opens53).mono fun _ _ => trivial
theorem opens68 : Opens enc Try.prog w base spare held 68 k68 (fun _ => True) :=
  (((Opens.struct (d := Kd.pair (Kd.int .i64) (Kd.slice 29 k29)) Try.underlying68 (FieldsOpen.cons (Opens.int Try.underlying3) rfl (FieldsOpen.last opens37 (by kernel_rfl) (by kernel_rfl)))).iso (fun x : S68 => (x.f0, x.f1)) (fun p => ⟨p.1, p.2⟩) (fun _ => rfl))).mono fun _ _ => trivial
theorem opens56 : Opens enc Try.prog w base spare held 56 (Kd.slice 68 k68) (fun _ => True) := (Opens.slice Try.underlying56 (by kernel_rfl) opens68).mono fun _ _ => trivial
theorem opens55 : Opens enc Try.prog w base spare held 55 (Kd.slice 3 (Kd.int .i64)) (fun _ => True) := (Opens.slice Try.underlying55 (by kernel_rfl) (Opens.int Try.underlying3)).mono fun _ _ => trivial
theorem opens58 : Opens enc Try.prog w base spare held 58 kObs (fun a => (Lit.int .i64 a.e).wf = true ∧ a.m.size ≤ maxLen) :=
  (((Opens.struct (d := Kd.pair (Kd.int .i64) (Kd.pair k53 (Kd.pair (Kd.slice 53 k53) (Kd.pair Kd.string (Kd.pair (Kd.slice 29 k29) (Kd.pair (Kd.slice 3 (Kd.int .i64)) (Kd.slice 68 k68))))))) Try.underlying58
    (FieldsOpen.cons (Opens.int Try.underlying3) rfl (FieldsOpen.cons opens53 (by kernel_rfl) (FieldsOpen.cons opens54 (by kernel_rfl) (FieldsOpen.cons (Opens.string Try.underlying9) (by kernel_rfl) (FieldsOpen.cons opens37 (by kernel_rfl) (FieldsOpen.cons opens55 (by kernel_rfl) (FieldsOpen.last opens56 (by kernel_rfl) (by kernel_rfl))))))))).iso
    (fun a : Obs => (a.e, a.o, a.outs, a.m, a.g, a.t, a.tr)) (fun p => ⟨p.1, p.2.1, p.2.2.1, p.2.2.2.1, p.2.2.2.2.1, p.2.2.2.2.2.1, p.2.2.2.2.2.2⟩) (fun _ => rfl))).mono fun _ h => ⟨h.1, h.2.2.2.1⟩
end
end Go.Proofs.Ytddfoogbakiojaa.EObs
