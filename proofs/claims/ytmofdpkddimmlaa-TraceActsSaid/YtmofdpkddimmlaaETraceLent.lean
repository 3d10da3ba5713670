/-
  What is lent to the host.
-/
import Derived.Test.YtmofdpkddimmlaaETraceTw
namespace Go.Proofs.Ytmofdpkddimmlaa.ETrace
open Go Go.RowKit Go.Proofs.Ytmofdpkddimmlaa.F Go.Proofs.Ytmofdpkddimmlaa.PureVals Go.Proofs.YtmofdpkddimmlaaW.Hand Go.Proofs.YtmofdpkddimmlaaW.PrintWords Go.Proofs.YtmofdpkddimmlaaW.PrintLast Go.Proofs.YtmofdpkddimmlaaW.PrintMore
set_option linter.unusedVariables false
set_option linter.unusedSimpArgs false
/-- What is lent: a list, and the block in which its copy lies, two more behind it. -/
structure Ln where
  vals : List S56
  blk : Nat
theorem R_low2 {W : World} {b n c : Nat} {ok : Nat → Prop} {A : Option Addr} {xs : List S56} (h : k56.R 56 W b ok (.slice A n c) xs) (hp : 0 < n) : ∃ g, A = some ⟨g, 0, none⟩ ∧ ok g ∧ b ≤ g ∧ g < W.heap.size ∧ k56.R 56 W 0 (fun _ => True) (.slice (some ⟨g, 0, none⟩) n c) xs := by
  have hn := (Kd.R_reads' h).1
  obtain ⟨g, c', e, h1, h2, _⟩ := Kd.R_form h (by omega)
  injection e with e _ _
  subst e
  exact ⟨g, rfl, h.1 g (by simp [Value.ownBlock]), h1, h2, R_low h⟩
def kLent : Kd Ln where
  sz := 1
  E := []
  K := fun w x cs => ∃ c, cs = [.slice (some ⟨x.blk, 0, none⟩) x.vals.length c] ∧ x.vals.length + 2 ≤ c ∧ k56.R 56 w 0 (fun _ => True) (.slice (some ⟨x.blk, 0, none⟩) (x.vals.length + 2) c) (x.vals ++ zz)
  M := fun _ _ _ _ _ => False
  K_len := by
    rintro w x cs ⟨c, rfl, _⟩
    rfl
  K_one := by
    rintro w x cs ⟨c, rfl, _⟩ u hu
    rw [List.mem_singleton.1 hu]
    rfl
  K_below := by
    rintro w w1 x cs hb ⟨c, rfl, hc, h⟩
    exact ⟨c, rfl, hc, Kd.R_below h hb⟩
  K_of_M := fun h => h.elim
  M_mono := fun _ h => h.elim
  M_bound := fun h => h.elim
  M_move := fun _ h => h.elim
  M_lower := fun _ h => h.elim
/-- It keeps while its own block does. -/
theorem kLent_keep {W W1 : World} {x : Ln} {cs : List Value} (h : kLent.K W x cs) (hk : W1.heap[x.blk]? = W.heap[x.blk]?) : kLent.K W1 x cs := by
  obtain ⟨c, rfl, hc, h⟩ := h
  refine ⟨c, rfl, hc, ?_⟩
  have h2 : k56.R 56 W 0 (fun k => k = x.blk) (.slice (some ⟨x.blk, 0, none⟩) (x.vals.length + 2) c) (x.vals ++ zz) := by
    obtain ⟨_, inner, ho, hr⟩ := h
    exact ⟨fun k hk => by simpa [Value.ownBlock] using hk.symm, inner, ho, hr.imp_ (fun _ _ hp => by rw [k56_openM hp]; exact k56_mkM _ _ _ _)⟩
  exact R_low (Kd.R_step h2 (fun k hk _ => hk ▸ (by subst hk; exact hk)))
theorem FK_lent {W : World} {vs : List S56} {g c : Nat} {ok : Nat → Prop} (hc : vs.length + 2 ≤ c) (h : k56.R 56 W 0 (fun _ => True) (.slice (some ⟨g, 0, none⟩) (vs.length + 2) c) (vs ++ zz)) (hg : ok g) : Kd.FK kLent W ok ⟨vs, g⟩ [.slice (some ⟨g, 0, none⟩) vs.length c] := fun W' hW => by
  have hlt : g < W.heap.size := by
    obtain ⟨g', c', e, _, h2, _⟩ := Kd.R_form h (by simp [zz])
    injection e with e _ _
    obtain rfl : g = g' := by simpa using e
    exact h2
  exact kLent_keep (x := ⟨vs, g⟩) ⟨c, rfl, hc, h⟩ (hW g hg hlt)
theorem k27_of_lent {W : World} {x : Ln} {cs : List Value} (h : kLent.K W x cs) : k27.K W x.vals cs := by
  obtain ⟨c, rfl, hc, h⟩ := h
  refine k27_mk ?_ (by omega)
  have h2 := Kd.C_take (m := x.vals.length) (Kd.R_reads' h).2.2 (by simp)
  simpa using h2
theorem C_of_lent {W : World} {A : Option Addr} {n : Nat} {ls : List Ln} (h : kLent.C W A n ls) : k27.C W A n (ls.map Ln.vals) := by
  obtain ⟨h1, h2, h3⟩ := h
  refine ⟨by simpa using h1, h2, fun hp => ?_⟩
  obtain ⟨ad, e, hh⟩ := h3 hp
  refine ⟨ad, e, fun j x hx => ?_⟩
  rw [List.getElem?_map] at hx
  obtain ⟨y, hy, rfl⟩ := Option.map_eq_some_iff.1 hx
  obtain ⟨cs, hl, hK, hc⟩ := hh j y hy
  exact ⟨cs, hl, k27_of_lent hK, hc⟩
end Go.Proofs.Ytmofdpkddimmlaa.ETrace
