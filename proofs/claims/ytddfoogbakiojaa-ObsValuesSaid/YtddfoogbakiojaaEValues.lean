/-
  peloruslaw27.ObsValues answers true: obs.Values tells what the document's Fit tells, and the values that were lent stay.
-/
import Derived.Test.YtddfoogbakiojaaELend
namespace Go.Proofs.Ytddfoogbakiojaa.EObs
open Go Go.RowKit Go.Proofs.Ytddfoogbakiojaa.F Go.Proofs.Ytddfoogbakiojaa.PureObs Go.Proofs.YtddfoogbakiojaaW.Hand Go.Proofs.YtddfoogbakiojaaW.PrintWords Go.Proofs.YtddfoogbakiojaaW.PrintLast Go.Proofs.YtddfoogbakiojaaW.PrintMore
set_option linter.unusedVariables false
set_option linter.unusedSimpArgs false

theorem C_front {W : World} {A : Option Addr} {vs : List S29} (h : k29.C W A (vs.length + 2) (vs ++ zz)) : k29.C W A vs.length vs := by
  have := Kd.C_take (m := vs.length) (k := k29) (w := W) (A := A) (xs := vs ++ zz) (by simpa [zz] using h) (by simp)
  simpa using this
set_option maxHeartbeats 4000000 in
set_option maxRecDepth 100000 in
theorem obsValues_calls {w : World} {Ap Ar A : Option Addr} {cp cr c : Nat} {ps rs : List Int} {vs : List S29} (hp : (Kd.int .i64).C w Ap ps.length ps) (hcp : ps.length ≤ cp) (hr : (Kd.int .i64).C w Ar rs.length rs) (hcr : rs.length ≤ cr) (h : k29.C w A vs.length vs) (hc : vs.length ≤ c) (hs : vs.length * 16 ≤ 140737488351232) :
    Calls Try.prog 8 #[.agg #[.slice Ap ps.length cp, .slice Ar rs.length cr], .slice A vs.length c] w fun e w' => e = .returned (.bool true) ∧ Below w.heap.size w w' := by
  have hu62 := Try.underlying62
  obtain ⟨k1, hk1⟩ := (values_ev ps rs vs (Kd.C_max hr)).rounds
  obtain ⟨k2, hk2⟩ := (fit_ev rs vs (Kd.C_max h)).rounds
  have CL := Aside0.mk (fun W (hb : Below w.heap.size w W) => lend_calls (Kd.C_below h hb) hc hs)
  have CV : Aside0 (∀ W A' cap, Below w.heap.size w W → vs.length + 2 ≤ cap → k29.C W A' (vs.length + 2) (vs ++ zz) → Calls Try.prog 39 #[.agg #[.slice Ap ps.length cp, .slice Ar rs.length cr], .slice A' vs.length cap] W fun e w' => e = .returned (.bool (fitV rs vs)) ∧ Below W.heap.size W w') :=
    ⟨fun W A' cap hb hcap hC => obs_Values.calls k1 _ _ _ _ _ _ _ _ _ _ W (Kd.C_below hp hb) hcp (Kd.C_below hr hb) hcr (C_front hC) (by omega) hk1⟩
  have CF : Aside0 (∀ W, Below w.heap.size w W → Calls Try.prog 40 #[.slice Ar rs.length cr, .slice A vs.length c] W fun e w' => e = .returned (.bool (fitV rs vs)) ∧ Below W.heap.size W w') :=
    ⟨fun W hb => (pelorusref8_Fit.calls k2 _ _ _ _ _ _ _ W (Kd.C_below hr hb) hcr (Kd.C_below h hb) hc hk2).mono fun _ _ hh => ⟨hh.1, by first | exact hh.2 | exact hh.2.below⟩⟩
  have CK : Aside0 (∀ W A' cap, Below w.heap.size w W → vs.length + 2 ≤ cap → k29.C W A' (vs.length + 2) (vs ++ zz) → Calls Try.prog 41 #[.slice A' vs.length cap, .slice A vs.length c] W fun e w' => e = .returned (.bool true) ∧ Below W.heap.size W w') :=
    ⟨fun W A' cap hb hcap hC => kept_calls hC hcap (Kd.C_below h hb) hc⟩
  clear hp hr h hs hk1 hk2 hc hcp hcr
  have HB := Aside0.mk (Below.refl w.heap.size w)
  go_enter Try.func8, Try.ntmps8
  go_wp2_with (first
    | ((with_reducible refine gate_dst (N := 2) rfl ?_); refine box_event ?hg (N := 2) ?hd (cs := #[.slice Ap ps.length cp, .slice Ar rs.length cr]) (t := 62) ?hr ?_; (case hd => rfl); (case hg => rfl); (case hr => first | (go_simp; done) | (go_simp; rfl)); intro ga hga wa hA hb; have A1 := Aside0.mk hA; have HB1 := Aside0.mk hb; clear hA hb hga HB)
    | (go_at_call 38; (with_reducible refine (CL.out _ HB1.out).mono ?_); rintro e w2 ⟨A', cap, rfl, hcap, hC, hb⟩; have A2 := Aside0.mk (blk_below A1.out hb); have HB2 := Aside0.mk (below_step HB1.out hb); have HC := Aside0.mk hC; have HP := Aside0.mk hcap; clear hb hC hcap A1 HB1))
  have hy : Below w2.heap.size w2 w2 := Below.refl _ _
  have x0 : ∀ W, Below w2.heap.size w2 W → W.cell? ⟨ga, 0, none⟩ = some (.slice Ap ps.length cp) := fun W hb => pw_cell_below hb (blk_cell A2.out 0)
  have x1 : ∀ W, Below w2.heap.size w2 W → W.cell? ⟨ga, 1, none⟩ = some (.slice Ar rs.length cr) := fun W hb => pw_cell_below hb (blk_cell A2.out 1)
  have C39 : Aside0 (∀ W, Below w2.heap.size w2 W → Calls Try.prog 39 #[.agg #[.slice Ap ps.length cp, .slice Ar rs.length cr], .slice A' vs.length cap] W fun e w' => e = .returned (.bool (fitV rs vs)) ∧ Below W.heap.size W w') := ⟨fun W hb => CV.out W A' cap (below_step HB2.out hb) HP.out (Kd.C_below HC.out hb)⟩
  have C40 : Aside0 (∀ W, Below w2.heap.size w2 W → Calls Try.prog 40 #[.slice Ar rs.length cr, .slice A vs.length c] W fun e w' => e = .returned (.bool (fitV rs vs)) ∧ Below W.heap.size W w') := ⟨fun W hb => CF.out W (below_step HB2.out hb)⟩
  have C41 : Aside0 (∀ W, Below w2.heap.size w2 W → Calls Try.prog 41 #[.slice A' vs.length cap, .slice A vs.length c] W fun e w' => e = .returned (.bool true) ∧ Below W.heap.size W w') := ⟨fun W hb => CK.out W A' cap (below_step HB2.out hb) HP.out (Kd.C_below HC.out hb)⟩
  clear CV CF CK CL A2 HC HP
  go_region_held3 (fun w' => Below w2.heap.size w2 w')
    (first | (with_reducible exact below_drew1 (Below.refl _ _)) | (with_reducible exact below_drew1 (by assumption)) | (with_reducible exact below_step (by assumption) hb) | (with_reducible exact hy))
    (first
      | (go_at_call 39; (with_reducible refine (C39.out _ (by assumption)).mono ?_); rintro e w' ⟨rfl, hb⟩; have hy0 := hy; have hy : Below w2.heap.size w2 w' := below_step (by assumption) hb)
      | (go_at_call 40; (with_reducible refine (C40.out _ (by assumption)).mono ?_); rintro e w' ⟨rfl, hb⟩; have hy0 := hy; have hy : Below w2.heap.size w2 w' := below_step (by assumption) hb)
      | (go_at_call 41; (with_reducible refine (C41.out _ (by assumption)).mono ?_); rintro e w' ⟨rfl, hb⟩; have hy0 := hy; have hy : Below w2.heap.size w2 w' := below_step (by assumption) hb)
      | (go_at_call 37; refine (awake_calls _).mono ?_; rintro e w' ⟨rfl, hb⟩; have hy0 := hy; have hy : Below w2.heap.size w2 w' := below_step (by assumption) hb))
  all_goals
    have HS : Below w.heap.size w _ := below_step HB2.out hy
    go_wp2_with fail
    go_ret
    exact ⟨rfl, HS⟩
end Go.Proofs.Ytddfoogbakiojaa.EObs
