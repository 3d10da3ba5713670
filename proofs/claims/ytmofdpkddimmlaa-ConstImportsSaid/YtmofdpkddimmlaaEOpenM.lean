/-
  Instructions and a module as arguments.
-/
import Derived.Test.YtmofdpkddimmlaaWOpen3
import Derived.Test.YtmofdpkddimmlaaFx0
import Derived.Test.YtmofdpkddimmlaaECopy
namespace Go.Proofs.Ytmofdpkddimmlaa.EInstr
open Go Go.RowKit Go.Proofs.Ytmofdpkddimmlaa.F Go.Proofs.YtmofdpkddimmlaaW.Hand Go.Proofs.YtmofdpkddimmlaaW.Open2 Go.Proofs.YtmofdpkddimmlaaW.PrintWords Go.Proofs.YtmofdpkddimmlaaW.PrintLast Go.Proofs.YtmofdpkddimmlaaW.PrintMore
open Go.Proofs.Ytmofdpkddimmlaa.ESame (Fit)
set_option linter.unusedVariables false
/-- The sizes within one instruction. -/
def G106 (x : S106) : Prop := ∀ n, x.f5.length * 8 ≤ 140737488351232 ∧ Fit n x.f6 ∧ Fit n x.f7
theorem fit_all {is : List S106} (h : is.length * 112 ≤ 140737488351232 ∧ ∀ x, x ∈ is → G106 x) : ∀ n, Fit n is
  | 0 => trivial
  | n + 1 => ⟨h.1, fun x hx => ⟨(h.2 x hx 0).1, (h.2 x hx n).2.1, (h.2 x hx n).2.2⟩⟩
section
variable {H : Type} {enc : TypeId × Value → H} {w : World} {base : Nat} {spare : Nat → Bool} {held : Bool}
theorem oI : Opens enc Try.prog w base spare held 3 (Kd.int .i64) (fun _ => True) := (Opens.int Try.underlying3).mono fun _ _ => trivial
theorem o34 : Opens enc Try.prog w base spare held 34 (Kd.slice 3 (Kd.int .i64)) (fun xs => xs.length * 8 ≤ 140737488351232) := (Opens.slice Try.underlying34 (by kernel_rfl) (by kernel_rfl) oI (B := 8)).mono fun _ h => h.1
set_option maxRecDepth 100000 in
theorem o106S : ∀ s, OpensS enc Try.prog w base spare held s 106 k106 G106 := by
  intro s
  induction s with
  | zero =>
    intro fuel cs x hx hs hl
    exfalso
    obtain ⟨d, p⟩ := x
    cases d <;> simp at hs
  | succ s ih =>
    have ih91 : OpensS enc Try.prog w base spare held s 91 (Kd.slice 106 k106) (fun is => ∀ n, Fit n is) := (OpensS.slice Try.underlying91 (by kernel_rfl) (by kernel_rfl) ih (B := 112)).mono fun _ h => fit_all h
    have h := OpensS.struct Try.underlying106 (FieldsOpenS.cons oI.atS rfl (FieldsOpenS.cons oI.atS rfl (FieldsOpenS.cons oI.atS rfl (FieldsOpenS.cons oI.atS rfl (FieldsOpenS.cons oI.atS rfl (FieldsOpenS.cons o34.atS rfl (FieldsOpenS.cons ih91 rfl (FieldsOpenS.last ih91 (by kernel_rfl) (by kernel_rfl)))))))))
    intro fuel cs x hx hs hl
    obtain ⟨⟨a0, a1, a2, a3, a4, a5, a6, a7⟩, hk, -, -, -, -, -, h5, h6, h7⟩ := h fuel cs x hx hs hl
    obtain ⟨_, _, rfl, rfl, ⟨_, _, rfl, rfl, ⟨_, _, rfl, rfl, ⟨_, _, rfl, rfl, ⟨_, _, rfl, rfl, ⟨_, _, rfl, ⟨A5, c5, rfl, l5, g5⟩, ⟨_, _, rfl, ⟨A6, c6, rfl, l6, g6⟩, ⟨A7, c7, rfl, l7, g7⟩⟩⟩⟩⟩⟩⟩⟩ := hk
    exact ⟨⟨a0, a1, a2, a3, a4, a5, a6, a7⟩, k106_mk w ⟨a0, a1, a2, a3, a4, a5, a6, a7⟩ l5 g5 l6 g6 l7 g7, fun n => ⟨h5, h6 n, h7 n⟩⟩
theorem o91 : Opens enc Try.prog w base spare held 91 (Kd.slice 106 k106) (fun is => ∀ n, Fit n is) := (Opens.slice Try.underlying91 (by kernel_rfl) (by kernel_rfl) (OpensS.all o106S) (B := 112)).mono fun _ h => fit_all h
theorem o88 : Opens enc Try.prog w base spare held 88 k88 (fun _ => True) :=
  ((Opens.struct Try.underlying88 (FieldsOpen.cons oI rfl (FieldsOpen.last oI (by kernel_rfl) (by kernel_rfl)))).iso (fun x : S88 => (x.f0, x.f1)) (fun p => ⟨p.1, p.2⟩) (fun _ => rfl)).mono fun _ _ => trivial
theorem oS : Opens enc Try.prog w base spare held 9 Kd.string (fun _ => True) := (Opens.string Try.underlying9).mono fun _ _ => trivial
theorem oB : Opens enc Try.prog w base spare held 4 Kd.bool (fun _ => True) := Opens.bool Try.underlying4
set_option maxRecDepth 100000 in
theorem o90 : Opens enc Try.prog w base spare held 90 k90 (fun _ => True) :=
  ((Opens.struct Try.underlying90 (FieldsOpen.cons oS rfl (FieldsOpen.cons oS rfl (FieldsOpen.cons oI rfl (FieldsOpen.cons oI rfl (FieldsOpen.cons oB rfl (FieldsOpen.last o88 (by kernel_rfl) (by kernel_rfl)))))))).iso (fun x : S90 => (x.f0, x.f1, x.f2, x.f3, x.f4, x.f5)) (fun p => ⟨p.1, p.2.1, p.2.2.1, p.2.2.2.1, p.2.2.2.2.1, p.2.2.2.2.2⟩) (fun _ => rfl)).mono fun _ _ => trivial
set_option maxRecDepth 100000 in
theorem o93 : Opens enc Try.prog w base spare held 93 k93 (fun x => ∀ n, Fit n x.f2) :=
  ((Opens.struct Try.underlying93 (FieldsOpen.cons oI rfl (FieldsOpen.cons oB rfl (FieldsOpen.last o91 (by kernel_rfl) (by kernel_rfl))))).iso (fun x : S93 => (x.f0, x.f1, x.f2)) (fun p => ⟨p.1, p.2.1, p.2.2⟩) (fun _ => rfl)).mono fun _ h => h.2.2
set_option maxRecDepth 100000 in
theorem o61 : Opens enc Try.prog w base spare held 61 (Kd.slice 90 k90) (fun xs => xs.length ≤ 140737488351232) := (Opens.slice Try.underlying61 (by kernel_rfl) (by kernel_rfl) o90 (B := 72)).mono fun _ h => by have := h.1; omega
set_option maxRecDepth 100000 in
theorem o63 : Opens enc Try.prog w base spare held 63 (Kd.slice 93 k93) (fun xs => xs.length ≤ 140737488351232) := (Opens.slice Try.underlying63 (by kernel_rfl) (by kernel_rfl) o93 (B := 40)).mono fun _ h => by have := h.1; omega
/-- A module of which the imports and the globals are told. -/
def kMod := Kd.pair kShape (Kd.pair (Kd.slice 90 k90) (Kd.pair kShape (Kd.pair kShape (Kd.pair kShape (Kd.pair (Kd.slice 93 k93) (Kd.pair kShape (Kd.pair (Kd.int .i64) (Kd.pair kShape (Kd.pair kShape kShape)))))))))
set_option maxRecDepth 100000 in
theorem o69 : Opens enc Try.prog w base spare held 69 kMod (fun m => m.2.1.length ≤ 140737488351232 ∧ m.2.2.2.2.2.1.length ≤ 140737488351232) :=
  (Opens.struct Try.underlying69 (FieldsOpen.cons (Opens.shape Try.underlying60) rfl (FieldsOpen.cons o61 rfl (FieldsOpen.cons (Opens.shape Try.underlying34) rfl (FieldsOpen.cons (Opens.shape Try.underlying62) rfl (FieldsOpen.cons (Opens.shape Try.underlying62) rfl (FieldsOpen.cons o63 rfl (FieldsOpen.cons (Opens.shape Try.underlying64) rfl (FieldsOpen.cons oI rfl (FieldsOpen.cons (Opens.shape Try.underlying65) rfl (FieldsOpen.cons (Opens.shape Try.underlying66) rfl (FieldsOpen.last (Opens.shape Try.underlying67) (by kernel_rfl) (by kernel_rfl))))))))))))).mono fun _ h => ⟨h.2.1, h.2.2.2.2.2.1⟩
end
end Go.Proofs.Ytmofdpkddimmlaa.EInstr
