/-
  LendVals hands out a copy with two more behind its length; KeptVals finds them there.
-/
import Derived.Test.YtmofdpkddimmlaaETraceNew
namespace Go.Proofs.Ytmofdpkddimmlaa.ETrace
open Go Go.RowKit Go.Proofs.Ytmofdpkddimmlaa.F Go.Proofs.Ytmofdpkddimmlaa.PureVals Go.Proofs.YtmofdpkddimmlaaW.Hand Go.Proofs.YtmofdpkddimmlaaW.PrintWords Go.Proofs.YtmofdpkddimmlaaW.PrintLast Go.Proofs.YtmofdpkddimmlaaW.PrintMore
set_option linter.unusedVariables false
set_option linter.unusedSimpArgs false

def zz : List S56 := [⟨77777, 0⟩, ⟨77777, 0⟩]
theorem C_zz {W : World} {g : Nat} (h : W.heap[g]? = some (.cells #[.int .i64 77777, .int .i64 0, .int .i64 77777, .int .i64 0] 56 (0, 0))) : k56.C W (some ⟨g, 0, none⟩) 2 zz := by
  refine ⟨rfl, by simp, fun _ => ⟨_, rfl, fun j p hp => ?_⟩⟩
  rcases j with _ | _ | j
  · obtain rfl : (⟨77777, 0⟩ : S56) = p := by simpa [zz] using hp
    refine ⟨[.int .i64 77777, .int .i64 0], rfl, k56_mk W ⟨77777, 0⟩, fun i u hu => ?_⟩
    rw [add_plain, blk_cell h]
    rcases i with _ | _ | i <;> simp [show k56.sz = 2 from rfl] at hu ⊢ <;> exact hu
  · obtain rfl : (⟨77777, 0⟩ : S56) = p := by simpa [zz] using hp
    refine ⟨[.int .i64 77777, .int .i64 0], rfl, k56_mk W ⟨77777, 0⟩, fun i u hu => ?_⟩
    rw [add_plain, blk_cell h]
    rcases i with _ | _ | i <;> simp [show k56.sz = 2 from rfl] at hu ⊢ <;> exact hu
  · simp [zz] at hp
set_option maxHeartbeats 4000000 in
set_option maxRecDepth 100000 in
theorem lend_calls {w : World} {A : Option Addr} {c : Nat} {vs : List S56} (h : k56.C w A vs.length vs) (hc : vs.length ≤ c) (hs : vs.length * 16 ≤ 140737488351232) :
    Calls Try.prog 12 #[.slice A vs.length c] w fun e w' => ∃ A' cap, e = .returned (.slice A' vs.length cap) ∧ vs.length + 2 ≤ cap ∧ k56.R 56 w' w.heap.size (fun k => w.heap.size ≤ k) (.slice A' (vs.length + 2) cap) (vs ++ zz) ∧ Below w.heap.size w w' := by
  have hu56 := Try.underlying56
  have hu24 := Try.underlying24
  have H := Aside0.mk h
  have HS := Aside0.mk hs
  have HC := Aside0.mk hc
  clear h hs hc
  go_enter Try.func12, Try.ntmps12
  go_wp2_with (first
    | (go_at_call 47; refine (peloruslaw0_CopyVals.calls _ _ vs vs _ H.out HC.out (by have := HS.out; simp [peloruslaw0_CopyVals.f]; omega)).mono ?_; rintro e w1 ⟨v0, rfl, hR, hb⟩; have HR := Aside0.mk hR; have HB := Aside0.mk hb; clear hR hb)
    | ((with_reducible refine gate_dst (N := 8) rfl ?_); refine lit_event ?hg (N := 8) ?hd (cs := #[.int .i64 77777, .int .i64 0, .int .i64 77777, .int .i64 0]) (t := 56) (n := 2) ?hr ?_; (case hd => rfl); (case hg => rfl); (case hr => first | (go_simp; done) | (go_simp; rfl)); intro g1 hg1 w2 hA hb; have CZ := Aside0.mk (C_zz hA); have HB2 := Aside0.mk (below_step HB.out hb); have HR2 := Aside0.mk (Kd.R_below HR.out hb); clear hA hb HB HR hg1)
    | ((with_reducible refine gate_dst (N := 9) rfl ?_); refine hold ?_))
  refine ⟨?_⟩
  refine Kd.R_append_rows (w0 := w) k56 w.heap.size rfl (.tmp 5) (.tmp 8) 24 56 (.agg #[.int .i64 0, .int .i64 0]) 16 rfl hu24 (by kernel_rfl) rfl (by decide) (by decide) v0 vs zz (some ⟨g1, 0, none⟩) 2 2 (fun k => w.heap.size ≤ k) (fun _ => False) rfl rfl (Kd.R_mono (Kd.R_bound HR2.out) (fun k hk => hk.2.1)) CZ.out (fun x cs hk => by rw [k56_open hk]; exact k56_mkM _ _ _ _) (fun _ hk => hk.elim) (fun k hk => Nat.le_trans HB2.out.size hk) HB2.out HB2.out.size (by have := HS.out; omega) ?_
  intro v1 w3 hR hb _ _
  have HRR := Aside0.mk hR
  obtain ⟨A1, c1, rfl, hl, hC⟩ := Kd.R_reads hR
  have HB3 := Aside0.mk hb
  have HC3 := Aside0.mk hC
  have HL := Aside0.mk hl
  clear hR hb hC hl HR2 CZ HB2
  have hcap2 : Aside0 (vs.length + 2 ≤ c1) := ⟨by have := HL.out; simp [zz] at this; omega⟩
  have hcap : vs.length ≤ c1 := by have := hcap2.out; omega
  go_wp2
  go_ret
  exact ⟨A1, c1, rfl, hcap2.out, by have := HRR.out; simpa [zz] using this, HB3.out⟩
theorem at_z {W : World} {A : Option Addr} {vs : List S56} (h : k56.C W A (vs.length + 2) (vs ++ zz)) : ∃ ad, A = some ad ∧ W.cell? (ad.add (vs.length * 2)) = some (.int .i64 77777) ∧ W.cell? ⟨(ad.add (vs.length * 2)).block, (ad.add (vs.length * 2)).off + 1, none⟩ = some (.int .i64 0) ∧
    W.cell? (ad.add ((vs.length + 1) * 2)) = some (.int .i64 77777) ∧ W.cell? ⟨(ad.add ((vs.length + 1) * 2)).block, (ad.add ((vs.length + 1) * 2)).off + 1, none⟩ = some (.int .i64 0) := by
  obtain ⟨ad, e, h1, h2⟩ := at_T56 h (vs.length : Int) (by omega) (by omega)
  obtain ⟨ad', e', h3, h4⟩ := at_T56 h ((vs.length : Int) + 1) (by omega) (by omega)
  subst e
  obtain rfl := Option.some.inj e'
  have z0 : rd_T56 (vs ++ zz) (vs.length : Int) = ⟨77777, 0⟩ := by simp [rd_T56, zz]
  have z1 : rd_T56 (vs ++ zz) ((vs.length : Int) + 1) = ⟨77777, 0⟩ := by
    have : ((vs.length : Int) + 1).toNat = vs.length + 1 := by omega
    simp [rd_T56, zz, this]
  have t1 : ((vs.length : Int) + 1).toNat = vs.length + 1 := by omega
  rw [z0] at h1 h2
  rw [z1, t1] at h3 h4
  simp only [Int.toNat_natCast] at h1 h2
  exact ⟨ad, rfl, h1, h2, h3, h4⟩
set_option maxHeartbeats 4000000 in
set_option maxRecDepth 100000 in
theorem kept_calls {w : World} {A1 A : Option Addr} {c1 c : Nat} {vs : List S56} (h1 : k56.C w A1 (vs.length + 2) (vs ++ zz)) (hc1 : vs.length + 2 ≤ c1) (h : k56.C w A vs.length vs) (hc : vs.length ≤ c) :
    Calls Try.prog 15 #[.slice A1 vs.length c1, .slice A vs.length c] w fun e w' => e = .returned (.bool true) ∧ Below w.heap.size w w' := by
  have hu56 := Try.underlying56
  have hu24 := Try.underlying24
  have hm : vs.length + 2 ≤ 9223372036854775807 := Kd.C_max h1
  obtain ⟨k, hk⟩ := (sameVals_ev vs vs (by unfold Small; omega)).rounds
  simp only [decide_true] at hk
  have HV : k56.C w A1 vs.length vs := by
    have := Kd.C_take (m := vs.length) (k := k56) (w := w) (A := A1) (xs := vs ++ zz) (by simpa [zz] using h1) (by simp)
    simpa using this
  have C1 : Aside0 (∀ W, Below w.heap.size w W → Calls Try.prog 19 #[.slice A1 vs.length c1, .slice A vs.length c] W fun e w' => e = .returned (.bool true) ∧ Below W.heap.size W w') :=
    ⟨fun W hb => (peloruslaw0_SameVals.calls k _ _ _ _ _ _ _ W (Kd.C_below HV hb) (by omega) (Kd.C_below h hb) hc hk).mono fun _ _ hh => ⟨hh.1, by first | exact hh.2 | exact hh.2.below⟩⟩
  obtain ⟨ad, rfl, e1, e2, e3, e4⟩ := at_z h1
  have x1 : ∀ W, Below w.heap.size w W → W.cell? (ad.add (vs.length * 2)) = some (.int .i64 77777) := fun W hb => pw_cell_below hb e1
  have x2 : ∀ W, Below w.heap.size w W → W.cell? ⟨(ad.add (vs.length * 2)).block, (ad.add (vs.length * 2)).off + 1, none⟩ = some (.int .i64 0) := fun W hb => pw_cell_below hb e2
  have x3 : ∀ W, Below w.heap.size w W → W.cell? (ad.add ((vs.length + 1) * 2)) = some (.int .i64 77777) := fun W hb => pw_cell_below hb e3
  have x4 : ∀ W, Below w.heap.size w W → W.cell? ⟨(ad.add ((vs.length + 1) * 2)).block, (ad.add ((vs.length + 1) * 2)).off + 1, none⟩ = some (.int .i64 0) := fun W hb => pw_cell_below hb e4
  clear h h1 hc hk HV e1 e2 e3 e4
  have hy : Below w.heap.size w w := Below.refl _ _
  go_enter Try.func15, Try.ntmps15
  go_wp2_with (first
    | (go_at_call 19; (with_reducible refine (C1.out _ (by assumption)).mono ?_); rintro e w' ⟨rfl, hb⟩; have hy0 := hy; clear hy; have hy : Below w.heap.size w w' := below_step hy0 hb; clear hb hy0))
  go_ret
  exact ⟨rfl, hy⟩
end Go.Proofs.Ytmofdpkddimmlaa.ETrace
