/-
  slices.Clone of whole numbers, in the form that the print's texts use.
-/
import Derived.Test.YtmofdpkddimmlaaFx0
import Derived.Test.YtmofdpkddimmlaaWHand
import Derived.Test.YtmofdpkddimmlaaWHand2
import Derived.Lib.SliceRun
namespace Go.Proofs.Ytmofdpkddimmlaa.F
open Go Go.RowKit Go.Proofs.YtmofdpkddimmlaaW.Hand Go.Proofs.YtmofdpkddimmlaaW.PrintWords Go.Proofs.YtmofdpkddimmlaaW.PrintLast Go.Proofs.YtmofdpkddimmlaaW.PrintMore
set_option linter.unusedVariables false
set_option linter.unusedSimpArgs false
def slices_Clone_int_int.f (k : Nat) (l : List Int) : Option (List Int) := if l.length * 8 ≤ 140737488351232 then some l else none
theorem slices_Clone_int_int.mono : ∀ a0 k, LeO (slices_Clone_int_int.f k a0) (slices_Clone_int_int.f (k + 1) a0) := fun _ _ => LeO.refl _
set_option maxRecDepth 100000 in
set_option maxHeartbeats 4000000 in
theorem slices_Clone_int_int.calls (k : Nat) (A : Option Addr) (c : Nat) (vs r : List Int) (w : World) (h : Kd.C (Kd.int .i64) w A vs.length vs) (hc : vs.length ≤ c) (hf : slices_Clone_int_int.f k vs = some r) :
    Calls Try.prog 71 #[.slice A vs.length c] w fun e w' => ∃ v, e = .returned v ∧ Kd.R (Kd.int .i64) 3 w' w.heap.size (fun _ => True) v r ∧ Below w.heap.size w w' := by
  have hs : vs.length * 8 ≤ 140737488351232 ∧ r = vs := by
    unfold slices_Clone_int_int.f at hf
    split at hf
    · exact ⟨by assumption, by cases hf; rfl⟩
    · cases hf
  obtain ⟨hs, rfl⟩ := hs
  clear hf
  have hu34 := Try.underlying34
  have hq := fun (W : World) (a : Option Addr) (n c : Nat) => Lib.run_eql_slice_nil (P := Try.prog) W 34 3 a n c 0 0 hu34
  have H := Aside0.mk h
  have HS := Aside0.mk hs
  clear hs
  cases A with
  | none =>
    have hn : r = [] := by
      cases r with
      | nil => rfl
      | cons a l =>
        obtain ⟨ad, e, _⟩ := h.2.2 (by simp)
        cases e
    subst hn
    clear h
    go_enter Try.func71, Try.ntmps71
    go_wp2
    go_ret
    exact ⟨.slice none 0 0, rfl, Kd.R_nil _ _ _ _ _, Below.refl _ _⟩
  | some ad =>
    clear h
    go_enter Try.func71, Try.ntmps71
    go_wp2_with (first
      | ((with_reducible refine gate_dst (N := 5) rfl ?_); refine Kd.R_lit (Kd.int .i64) (w0 := w) w.heap.size 3 ?hg (N := 5) ?hd (xs := []) (inner := []) (ok := fun _ => True) (okp := fun _ => False) ?hr (Reps.none _ _) (fun _ hk => hk.elim) trivial (Below.refl _ _) (Nat.le_refl _) (by simp) ?_; (case hd => rfl); (case hg => rfl); (case hr => first | (go_simp; done) | (go_simp; rfl)); intro v1 w1 hR hb _ _; have R1 := Aside0.mk hR; have HB1 := Aside0.mk hb; clear hR hb)
      | ((with_reducible refine gate_dst (N := 7) rfl ?_); refine Kd.R_append_rows (w0 := w) (Kd.int .i64) w.heap.size rfl (.tmp 5) (.tmp 6) 34 3 (.int .i64 0) 8 rfl hu34 (by kernel_rfl) rfl (by decide) (by decide) v1 [] r (some ad) r.length c (fun _ => True) (fun _ => False) rfl rfl R1.out (Kd.C_below H.out HB1.out) (fun _ _ h => h) (fun _ hk => hk.elim) (fun _ _ => trivial) HB1.out HB1.out.size (by have := HS.out; simp; omega) ?_; intro v2 w2 hR hb _ _; obtain ⟨A2, c2, rfl⟩ := Kd.R_slice hR; have R2 := Aside0.mk hR; have HB2 := Aside0.mk hb; clear hR hb))
    go_ret
    exact ⟨_, rfl, R2.out, HB2.out⟩
end Go.Proofs.Ytmofdpkddimmlaa.F
