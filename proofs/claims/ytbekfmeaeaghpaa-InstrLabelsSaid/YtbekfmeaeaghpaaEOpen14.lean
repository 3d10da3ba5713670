/-
  Instructions as arguments: chapter 14.
-/
import Derived.Test.YtbekfmeaeaghpaaWOpen3
import Derived.Test.YtbekfmeaeaghpaaD14G
namespace Go.Proofs.Ytbekfmeaeaghpaa.EInstr
open Go Go.RowKit Go.Proofs.Ytbekfmeaeaghpaa.F Go.Proofs.YtbekfmeaeaghpaaW.Hand Go.Proofs.YtbekfmeaeaghpaaW.Open2 Go.Proofs.YtbekfmeaeaghpaaW.PrintWords Go.Proofs.YtbekfmeaeaghpaaW.PrintLast Go.Proofs.YtbekfmeaeaghpaaW.PrintMore
set_option linter.unusedVariables false
/-- The number of 64 bits within one instruction. -/
def G44 (x : S44) : Prop := (-9223372036854775808 ≤ x.f3 ∧ x.f3 < 9223372036854775808) ∧ wf64 x.f6 ∧ wf64 x.f7
theorem wf_all : ∀ {is : List S44}, (∀ x, x ∈ is → G44 x) → wf64 is
  | [], _ => wf64_nil
  | x :: xs, h => (wf64_cons x xs).2 ⟨(h x (by simp)).1, (h x (by simp)).2.1, (h x (by simp)).2.2, wf_all (fun y hy => h y (by simp [hy]))⟩
section
variable {H : Type} {enc : TypeId × Value → H} {w : World} {base : Nat} {spare : Nat → Bool} {held : Bool}
theorem oI : Opens enc Try.prog w base spare held 3 (Kd.int .i64) (fun n => -9223372036854775808 ≤ n ∧ n < 9223372036854775808) := (Opens.int Try.underlying3).mono fun _ h => wf_rng h
theorem o42 : Opens enc Try.prog w base spare held 42 (Kd.slice 3 (Kd.int .i64)) (fun _ => True) := (Opens.slice Try.underlying42 (by kernel_rfl) (by kernel_rfl) oI (B := 8)).mono fun _ h => trivial
set_option maxRecDepth 100000 in
theorem o44S : ∀ s, OpensS enc Try.prog w base spare held s 44 k44 G44 := by
  intro s
  induction s with
  | zero =>
    intro fuel cs x hx hs hl
    exfalso
    obtain ⟨d, p⟩ := x
    cases d <;> simp at hs
  | succ s ih =>
    have ih22 : OpensS enc Try.prog w base spare held s 22 (Kd.slice 44 k44) (fun is => wf64 is) := (OpensS.slice Try.underlying22 (by kernel_rfl) (by kernel_rfl) ih (B := 112)).mono fun _ h => wf_all h.2
    have h := OpensS.struct Try.underlying44 (FieldsOpenS.cons oI.atS rfl (FieldsOpenS.cons oI.atS rfl (FieldsOpenS.cons oI.atS rfl (FieldsOpenS.cons oI.atS rfl (FieldsOpenS.cons oI.atS rfl (FieldsOpenS.cons o42.atS rfl (FieldsOpenS.cons ih22 rfl (FieldsOpenS.last ih22 (by kernel_rfl) (by kernel_rfl)))))))))
    intro fuel cs x hx hs hl
    obtain ⟨⟨a0, a1, a2, a3, a4, a5, a6, a7⟩, hk, -, -, -, h3, -, -, h6, h7⟩ := h fuel cs x hx hs hl
    obtain ⟨_, _, rfl, rfl, ⟨_, _, rfl, rfl, ⟨_, _, rfl, rfl, ⟨_, _, rfl, rfl, ⟨_, _, rfl, rfl, ⟨_, _, rfl, ⟨A5, c5, rfl, l5, g5⟩, ⟨_, _, rfl, ⟨A6, c6, rfl, l6, g6⟩, ⟨A7, c7, rfl, l7, g7⟩⟩⟩⟩⟩⟩⟩⟩ := hk
    exact ⟨⟨a0, a1, a2, a3, a4, a5, a6, a7⟩, k44_mk w ⟨a0, a1, a2, a3, a4, a5, a6, a7⟩ l5 g5 l6 g6 l7 g7, ⟨h3, h6, h7⟩⟩
theorem o22 : Opens enc Try.prog w base spare held 22 (Kd.slice 44 k44) (fun is => wf64 is) := (Opens.slice Try.underlying22 (by kernel_rfl) (by kernel_rfl) (OpensS.all o44S) (B := 112)).mono fun _ h => wf_all h.2
end
end Go.Proofs.Ytbekfmeaeaghpaa.EInstr
