/-
  An observation handed in, opened, with its sizes.
-/
import Derived.Test.YtddfoogbakiojaaEObs
import Derived.Test.YtddfoogbakiojaaWOpen2
namespace Go.Proofs.Ytddfoogbakiojaa.EObs
open Go Go.RowKit Go.Proofs.Ytddfoogbakiojaa.F Go.Proofs.Ytddfoogbakiojaa.PureObs Go.Proofs.YtddfoogbakiojaaW.Open2 Go.Proofs.YtddfoogbakiojaaW.PrintWords
structure Sized (a : Obs) : Prop where
  m : a.m.size ≤ 140737488351232
  outs : a.outs.length * 40 ≤ 140737488351232
  g : a.g.length * 16 ≤ 140737488351232
  t : a.t.length * 8 ≤ 140737488351232
  tr : a.tr.length * 32 ≤ 140737488351232
section
variable {H : Type} {enc : TypeId × Value → H} {w : World} {base : Nat} {spare : Nat → Bool} {held : Bool}
theorem p29 : Opens enc Try.prog w base spare held 29 k29 (fun _ => True) :=
  (((Opens.struct (d := Kd.pair (Kd.int .i64) (Kd.int .i64)) Try.underlying29 (FieldsOpen.cons (Opens.int Try.underlying3) rfl (FieldsOpen.last (Opens.int Try.underlying3) (by kernel_rfl) (by kernel_rfl)))).iso (fun x : S29 => (x.f0, x.f1)) (fun p => ⟨p.1, p.2⟩) (fun _ => rfl))).mono fun _ _ => trivial
theorem p37 : Opens enc Try.prog w base spare held 37 (Kd.slice 29 k29) (fun xs => xs.length * 16 ≤ 140737488351232) := (Opens.slice Try.underlying37 (by kernel_rfl) (by kernel_rfl) p29).mono fun _ h => h.1
theorem p53 : Opens enc Try.prog w base spare held 53 k53 (fun _ => True) :=
  (((Opens.struct (d := Kd.pair (Kd.int .i64) (Kd.pair (Kd.int .i64) (Kd.slice 29 k29))) Try.underlying53 (FieldsOpen.cons (Opens.int Try.underlying3) rfl (FieldsOpen.cons (Opens.int Try.underlying3) (by kernel_rfl) (FieldsOpen.last p37 (by kernel_rfl) (by kernel_rfl))))).iso (fun x : S53 => (x.f0, x.f1, x.f2)) (fun p => ⟨p.1, p.2.1, p.2.2⟩) (fun _ => rfl))).mono fun _ _ => trivial
theorem p54 : Opens enc Try.prog w base spare held 54 (Kd.slice 53 k53) (fun xs => xs.length * 40 ≤ 140737488351232) := (Opens.slice Try.underlying54 (by kernel_rfl) (by kernel_rfl) p53).mono fun _ h => h.1
theorem p68 : Opens enc Try.prog w base spare held 68 k68 (fun _ => True) :=
  (((Opens.struct (d := Kd.pair (Kd.int .i64) (Kd.slice 29 k29)) Try.underlying68 (FieldsOpen.cons (Opens.int Try.underlying3) rfl (FieldsOpen.last p37 (by kernel_rfl) (by kernel_rfl)))).iso (fun x : S68 => (x.f0, x.f1)) (fun p => ⟨p.1, p.2⟩) (fun _ => rfl))).mono fun _ _ => trivial
theorem p56 : Opens enc Try.prog w base spare held 56 (Kd.slice 68 k68) (fun xs => xs.length * 32 ≤ 140737488351232) := (Opens.slice Try.underlying56 (by kernel_rfl) (by kernel_rfl) p68).mono fun _ h => h.1
theorem p55 : Opens enc Try.prog w base spare held 55 (Kd.slice 3 (Kd.int .i64)) (fun xs => xs.length * 8 ≤ 140737488351232) := (Opens.slice Try.underlying55 (by kernel_rfl) (by kernel_rfl) (Opens.int Try.underlying3)).mono fun _ h => h.1
theorem p58 : Opens enc Try.prog w base spare held 58 kObs Sized :=
  (((Opens.struct (d := Kd.pair (Kd.int .i64) (Kd.pair k53 (Kd.pair (Kd.slice 53 k53) (Kd.pair Kd.string (Kd.pair (Kd.slice 29 k29) (Kd.pair (Kd.slice 3 (Kd.int .i64)) (Kd.slice 68 k68))))))) Try.underlying58
    (FieldsOpen.cons (Opens.int Try.underlying3) rfl (FieldsOpen.cons p53 (by kernel_rfl) (FieldsOpen.cons p54 (by kernel_rfl) (FieldsOpen.cons (Opens.string Try.underlying9) (by kernel_rfl) (FieldsOpen.cons p37 (by kernel_rfl) (FieldsOpen.cons p55 (by kernel_rfl) (FieldsOpen.last p56 (by kernel_rfl) (by kernel_rfl))))))))).iso
    (fun a : Obs => (a.e, a.o, a.outs, a.m, a.g, a.t, a.tr)) (fun p => ⟨p.1, p.2.1, p.2.2.1, p.2.2.2.1, p.2.2.2.2.1, p.2.2.2.2.2.1, p.2.2.2.2.2.2⟩) (fun _ => rfl))).mono fun _ h => ⟨h.2.2.2.1, h.2.2.1, h.2.2.2.2.1, h.2.2.2.2.2.1, h.2.2.2.2.2.2⟩
end
end Go.Proofs.Ytddfoogbakiojaa.EObs
