/-
  Both hosts' Call at any number, any answers: one contract each. Words for the third and the fourth loop of TraceActs. peloruslaw11.TraceActs: what is lent.
-/
import Derived.Test.YtmofdpkddimmlaaETraceLent
import Derived.Test.YtmofdpkddimmlaaETraceQ
import Derived.Test.YtmofdpkddimmlaaETraceAwake
import Derived.Test.YtmofdpkddimmlaaETraceOrder
namespace Go.Proofs.Ytmofdpkddimmlaa.ETrace
open Go Go.RowKit Go.Proofs.Ytmofdpkddimmlaa.F Go.Proofs.Ytmofdpkddimmlaa.PureVals Go.Proofs.YtmofdpkddimmlaaW.Hand Go.Proofs.YtmofdpkddimmlaaW.PrintWords Go.Proofs.YtmofdpkddimmlaaW.PrintLast Go.Proofs.YtmofdpkddimmlaaW.PrintMore
set_option linter.unusedVariables false
set_option linter.unusedSimpArgs false
def outV (f : Int) (rs : List Int) (an : List (List S56)) : List S56 := if f < 0 then [] else match an with
  | [] => []
  | vs :: _ => if fitV rs vs = true then vs else []
def outE (f : Int) (rs : List Int) (an : List (List S56)) : Int := if f < 0 then 1100 else match an with
  | [] => 1101
  | vs :: _ => if fitV rs vs = true then 0 else 1102
def outA (f : Int) (an : List (List S56)) : List (List S56) := if f < 0 then an else an.tail
def outH (f : Int) (args : List S56) (hs : List Hd) : List Hd := if f < 0 then hs else hs ++ [⟨f, args⟩]
theorem outA_mem {f : Int} {an : List (List S56)} {x : List S56} (h : x ∈ outA f an) : x ∈ an := by
  unfold outA at h
  split at h
  · exact h
  · exact List.mem_of_mem_tail h
theorem outA_len (f : Int) (an : List (List S56)) : (outA f an).length ≤ an.length := by
  unfold outA
  split
  · exact Nat.le_refl _
  · simp
theorem outH_len (f : Int) (args : List S56) (hs : List Hd) : (outH f args hs).length ≤ hs.length + 1 := by
  unfold outH
  split
  · omega
  · simp
theorem outH_mem {f : Int} {args : List S56} {hs : List Hd} {x : Hd} (h : x ∈ outH f args hs) : x ∈ hs ∨ x.args = args := by
  unfold outH at h
  split at h
  · exact .inl h
  · rcases List.mem_append.1 h with h | h
    · exact .inl h
    · exact .inr (by rw [List.mem_singleton.1 h])
section
variable {w0 w : World} {g gr : Nat} {P : Nat → Prop} {an1 an2 : List (List S56)} {hs1 hs2 : List Hd} {f : Int} {Ap Ar B : Option Addr} {np cp cr c : Nat} {rs : List Int} {args : List S56}
theorem Tw.held (h : Tw w0 w g gr P an1 hs1 an2 hs2) : ∀ k, P k → k < w.heap.size := by
  obtain ⟨Z1, Z2, h1, h2, a1, a2, a3, a4, a5⟩ := h
  exact a3
theorem Tw.old (h : Tw w0 w g gr P an1 hs1 an2 hs2) : ∀ k, k < w0.heap.size → P k := by
  obtain ⟨Z1, Z2, h1, h2, a1, a2, a3, a4, a5⟩ := h
  exact a4
theorem Tw.none_more {w' : World} (h : Tw w0 w' g gr P an1 hs1 an2 hs2) : Tw w0 w' g gr (fun k => P k ∨ (w'.heap.size ≤ k ∧ k < w'.heap.size)) an1 hs1 an2 hs2 := by
  obtain ⟨Z1, Z2, h1, h2, a1, a2, a3, a4, a5⟩ := h
  exact ⟨Z1, Z2, h1, h2, fun k hk => ⟨(a1 k hk).1, fun hn => hn.elim (a1 k hk).2.1 (fun hn => by omega), (a1 k hk).2.2⟩, fun k hk => ⟨fun hn => hn.elim (a2 k hk).1 (fun hn => by omega), (a2 k hk).2⟩,
    fun k hk => hk.elim (a3 k) (fun hn => hn.2), fun k hk => .inl (a4 k hk), a5⟩
def PostC (w0 w : World) (g gr : Nat) (P : Nat → Prop) (an1 : List (List S56)) (hs1 : List Hd) (an2 : List (List S56)) (hs2 : List Hd) (vs : List S56) (code : Int) (e : Ending) (w' : World) : Prop :=
  ∃ A' c' m, e = .returned (.tuple #[.slice A' vs.length c', .int .i64 code]) ∧ Tw w0 w' g gr (fun k => P k ∨ (m ≤ k ∧ k < w'.heap.size)) an1 hs1 an2 hs2 ∧ w.heap.size ≤ m ∧ k56.R 56 w' m (fun k => m ≤ k ∧ k < w'.heap.size) (.slice A' vs.length c') vs ∧ Kp P w w'
theorem post_nil {w' : World} {code : Int} (hs : w.heap.size ≤ w'.heap.size) (h : Tw w0 w' g gr P an1 hs1 an2 hs2) (hk : Kp P w w') : PostC w0 w g gr P an1 hs1 an2 hs2 [] code (.returned (.tuple #[.slice none 0 0, .int .i64 code])) w' :=
  ⟨none, 0, _, rfl, h.none_more, hs, Kd.R_nil _ _ _ _ _, hk⟩
theorem Kp.size {w' : World} (h : Tw w0 w' g gr P an1 hs1 an2 hs2) (hb : w.heap.size ≤ w'.heap.size) : w.heap.size ≤ w'.heap.size := hb
set_option maxHeartbeats 2000000 in
theorem twh_all (h : Tw w0 w g gr P an1 hs1 an2 hs2) (hlen : hs1.length ≤ 1000) (hr : Kd.F (Kd.int .i64) w P Ar rs.length rs) (hcr : rs.length ≤ cr) (ha : k56.C w B args.length args) (has : args.length * 16 ≤ 140737488351232) (hvs : ∀ x, x ∈ an1 → x.length * 16 ≤ 140737488351232) :
    Calls Try.prog 17 #[.pointer (some ⟨g, 0, none⟩), .int .i64 f, .agg #[.slice Ap np cp, .slice Ar rs.length cr], .slice B args.length c] w (PostC w0 w g gr P (outA f an1) (outH f args hs1) an2 hs2 (outV f rs an1) (outE f rs an1)) := by
  by_cases hf : f < 0
  · simp only [outA, outH, outV, outE, if_pos hf]
    refine (call_neg hf).mono ?_
    rintro e w' ⟨rfl, hb⟩
    exact post_nil hb.size (h.below hb) (h.kpb hb)
  · simp only [outA, outH, outV, outE, if_neg hf]
    cases an1 with
    | nil =>
      refine (twh_none h (by omega) hlen hr hcr ha has).mono ?_
      rintro e w' ⟨rfl, hT, hk, hs⟩
      exact post_nil hs hT hk
    | cons vs an1 =>
      cases hfit : fitV rs vs with
      | false =>
        simp only [hfit]
        refine (twh_wrong h (by omega) hlen hr hcr ha has hfit).mono ?_
        rintro e w' ⟨rfl, hT, hk, hs⟩
        exact post_nil hs hT hk
      | true =>
        simp only [hfit, if_true]
        exact twh_ok h (by omega) hlen hr hcr ha has hfit (hvs _ (by simp))
set_option maxHeartbeats 2000000 in
theorem twr_all (h : Tw w0 w g gr P an1 hs1 an2 hs2) (hlen : hs2.length ≤ 1000) (hr : Kd.F (Kd.int .i64) w P Ar rs.length rs) (hcr : rs.length ≤ cr) (ha : k56.C w B args.length args) (has : args.length * 16 ≤ 140737488351232) (hal : an2.length * 24 ≤ 140737488351232) (hvs : ∀ x, x ∈ an2 → x.length * 16 ≤ 140737488351232) :
    Calls Try.prog 18 #[.pointer (some ⟨gr, 0, none⟩), .int .i64 f, .agg #[.slice Ap np cp, .slice Ar rs.length cr], .slice B args.length c] w (PostC w0 w g gr P an1 hs1 (outA f an2) (outH f args hs2) (outV f rs an2) (outE f rs an2)) := by
  by_cases hf : f < 0
  · simp only [outA, outH, outV, outE, if_pos hf]
    refine (callR_neg hf).mono ?_
    rintro e w' ⟨rfl, hb⟩
    exact post_nil hb.size (h.below hb) (h.kpb hb)
  · simp only [outA, outH, outV, outE, if_neg hf]
    cases an2 with
    | nil =>
      refine (twr_none h (by omega) hlen hr hcr ha has).mono ?_
      rintro e w' ⟨rfl, hT, hk, hs⟩
      exact post_nil hs hT hk
    | cons vs an2 =>
      have hal' : an2.length * 24 ≤ 140737488351232 := by simp at hal; omega
      cases hfit : fitV rs vs with
      | false =>
        simp only [hfit]
        refine (twr_wrong h (by omega) hlen hr hcr ha has hal' hfit).mono ?_
        rintro e w' ⟨rfl, hT, hk, hs⟩
        exact post_nil hs hT hk
      | true =>
        simp only [hfit, if_true]
        exact twr_ok h (by omega) hlen hr hcr ha has hal' hfit (hvs _ (by simp))
end
end Go.Proofs.Ytmofdpkddimmlaa.ETrace
namespace Go.Proofs.Ytmofdpkddimmlaa.ETrace
open Go Go.RowKit Go.Proofs.Ytmofdpkddimmlaa.F Go.Proofs.Ytmofdpkddimmlaa.PureVals Go.Proofs.YtmofdpkddimmlaaW.Hand Go.Proofs.YtmofdpkddimmlaaW.PrintWords Go.Proofs.YtmofdpkddimmlaaW.PrintLast Go.Proofs.YtmofdpkddimmlaaW.PrintMore
set_option linter.unusedVariables false
set_option linter.unusedSimpArgs false
structure Ac where
  fn : Int
  ps : List Int
  rs : List Int
  args : List S56
def kAc : Kd Ac := Kd.iso (Kd.pair (Kd.int .i64) (Kd.pair (Kd.pair (Kd.slice 3 (Kd.int .i64)) (Kd.slice 3 (Kd.int .i64))) (Kd.slice 56 k56))) (fun x : Ac => (x.fn, ((x.ps, x.rs), x.args)))
theorem kAc_open {W : World} {x : Ac} {cs : List Value} (h : kAc.K W x cs) : ∃ Ap cp Ar cr B cb, cs = [.int .i64 x.fn, .slice Ap x.ps.length cp, .slice Ar x.rs.length cr, .slice B x.args.length cb] ∧ x.rs.length ≤ cr ∧ (Kd.int .i64).C W Ar x.rs.length x.rs ∧ x.args.length ≤ cb ∧ k56.C W B x.args.length x.args := by
  obtain ⟨c0, c1, rfl, h0, c2, c3, rfl, ⟨c4, c5, rfl, ⟨Ap, cp, rfl, _, _⟩, ⟨Ar, cr, rfl, h1, h2⟩⟩, ⟨B, cb, rfl, h3, h4⟩⟩ := h
  obtain rfl := h0
  exact ⟨Ap, cp, Ar, cr, B, cb, rfl, h1, h2, h3, h4⟩
def rdAc (acts : List Ac) (i : Nat) : Ac := acts.getD i ⟨0, [], [], []⟩
theorem rdAc_mem {acts : List Ac} {i : Nat} (h : i < acts.length) : rdAc acts i ∈ acts := by
  unfold rdAc
  rw [List.getD_eq_getElem?_getD, List.getElem?_eq_getElem h]
  exact List.getElem_mem h
theorem add_off (ad : Addr) (k j : Nat) : (⟨(ad.add k).block, (ad.add k).off + j, none⟩ : Addr) = ⟨ad.block, ad.off + (k + j), none⟩ := by
  unfold Addr.add
  split
  · rename_i h
    simp [h]
  · simp [Nat.add_assoc]
theorem act_at {w : World} {A : Option Addr} {n : Nat} {acts : List Ac} (h : kAc.C w A n acts) (i : Nat) (hi : i < n) :
    ∃ ad Ap cp Ar cr B cb, A = some ad ∧ w.cell? (ad.add (i * 4)) = some (.int .i64 (rdAc acts i).fn) ∧ w.cell? ⟨(ad.add (i * 4)).block, (ad.add (i * 4)).off + 1, none⟩ = some (.slice Ap (rdAc acts i).ps.length cp) ∧ w.cell? ⟨(ad.add (i * 4)).block, (ad.add (i * 4)).off + 2, none⟩ = some (.slice Ar (rdAc acts i).rs.length cr) ∧ w.cell? ⟨(ad.add (i * 4)).block, (ad.add (i * 4)).off + 3, none⟩ = some (.slice B (rdAc acts i).args.length cb) ∧
      (rdAc acts i).rs.length ≤ cr ∧ Kd.F (Kd.int .i64) w (fun k => k < w.heap.size) Ar (rdAc acts i).rs.length (rdAc acts i).rs ∧ (rdAc acts i).args.length ≤ cb ∧ k56.C w B (rdAc acts i).args.length (rdAc acts i).args := by
  obtain ⟨ad, cs, rfl, _, hK, hcc⟩ := Kd.C_get h ⟨0, [], [], []⟩ (i : Int) (by omega) (by omega)
  have hz : acts.getD ((i : Int)).toNat ⟨0, [], [], []⟩ = rdAc acts i := by simp [rdAc]
  rw [hz] at hK
  obtain ⟨Ap, cp, Ar, cr, B, cb, rfl, h1, h2, h3, h4⟩ := kAc_open hK
  have e0 := hcc 0 _ rfl
  have e1 := hcc 1 _ rfl
  have e2 := hcc 2 _ rfl
  have e3 := hcc 3 _ rfl
  simp only [show kAc.sz = 4 from rfl, Int.toNat_natCast] at e0 e1 e2 e3
  exact ⟨ad, Ap, cp, Ar, cr, B, cb, rfl, by simpa using e0, by rw [add_off]; simpa [Addr.add] using e1, by rw [add_off]; simpa [Addr.add] using e2, by rw [add_off]; simpa [Addr.add] using e3, h1, Kd.C_F (Kd.heap_int _) h2, h3, h4⟩
/-- The arguments of the j-th that was heard may be written. -/
def SpAt (Wt W : World) (lo ga j : Nat) : Prop := ∃ A n c, Wt.cell? ⟨ga, j * 2 + 1, none⟩ = some (.slice A n c) ∧ n ≤ 9223372036854775807 ∧ (n = 0 ∨ ∃ gb, A = some ⟨gb, 0, none⟩ ∧ gb ≠ ga ∧ lo ≤ gb ∧ gb < Wt.heap.size ∧ Spoils W gb n)
theorem spAt_of {w : World} {b lo ga n c : Nat} {ok : Nat → Prop} {hs : List Hd} (hn : hs.length = n) (h : Kd.N k52o 52 w b ok (.slice (some ⟨ga, 0, none⟩) n c) hs) (hok : ∀ k, ok k → lo ≤ k) (j : Nat) (hj : j < n) : SpAt w w lo ga j := by
  subst hn
  obtain ⟨cs, _, hK, hcc, _⟩ := Kd.N_elem h ⟨0, []⟩ (j : Int) (by omega) (by omega)
  obtain ⟨v, rfl, hR⟩ := Kd.FK_now hK
  obtain ⟨A, c, rfl⟩ := Kd.R_slice hR
  have e := hcc 1 _ rfl
  refine ⟨A, _, c, e, Kd.C_max (Kd.R_reads' hR).2.2, ?_⟩
  rcases Nat.eq_zero_or_pos (hs.getD ((j : Int)).toNat ⟨0, []⟩).args.length with h0 | hp
  · exact .inl h0
  · obtain ⟨g, rfl, _, hsp⟩ := spoils_of_R hR hp
    have hF : Kd.F k56 w (fun k => ok k ∧ k ≠ ga) (some ⟨g, 0, none⟩) (hs.getD ((j : Int)).toNat ⟨0, []⟩).args.length (hs.getD ((j : Int)).toNat ⟨0, []⟩).args := fun W' hW => by
      obtain ⟨v', e', hR'⟩ := hK W' hW
      obtain rfl : .slice (some ⟨g, 0, none⟩) (hs.getD ((j : Int)).toNat ⟨0, []⟩).args.length c = v' := by simpa using e'
      exact (Kd.R_reads' hR').2.2
    have hin := Kd.F_in hF rfl hp (by decide)
    obtain ⟨cs, t, hg, _⟩ := hsp
    exact .inr ⟨g, rfl, hin.2, hok _ hin.1, blk_lt hg, cs, t, hg, ‹_›⟩
theorem SpAt.spoil {Wt W W1 : World} {lo ga j gb : Nat} (h : SpAt Wt W lo ga j) (hf : Fr W W1 (fun k => k = gb)) (hs : ∀ m, Spoils W gb m → Spoils W1 gb m) : SpAt Wt W1 lo ga j := by
  obtain ⟨A, n, c, h1, h2, h3⟩ := h
  refine ⟨A, n, c, h1, h2, h3.imp_right ?_⟩
  rintro ⟨g, rfl, h4, h5, h6, h7⟩
  refine ⟨g, rfl, h4, h5, h6, ?_⟩
  by_cases e : g = gb
  · subst e
    exact hs _ h7
  · obtain ⟨cs, t, h8, h9⟩ := h7
    exact ⟨cs, t, hf.block h8 e, h9⟩
theorem SpAt.below {Wt W W1 : World} {lo ga j : Nat} (h : SpAt Wt W lo ga j) (hb : Below W.heap.size W W1) : SpAt Wt W1 lo ga j := by
  obtain ⟨A, n, c, h1, h2, h3⟩ := h
  refine ⟨A, n, c, h1, h2, h3.imp_right ?_⟩
  rintro ⟨g, rfl, h4, h5, h6, h7⟩
  exact ⟨g, rfl, h4, h5, h6, h7.below hb⟩
/-- The slice that Trace gave, ready for the fourth loop. -/
theorem sp_all {w : World} {A : Option Addr} {b n c : Nat} {hs : List Hd} (hn : hs.length = n) (h : Kd.N k52o 52 w b (fun k => b ≤ k) (.slice A n c) hs) :
    ∃ ga, (0 < n → A = some ⟨ga, 0, none⟩ ∧ b ≤ ga ∧ ∃ cs, w.heap[ga]? = some (.cells cs 52 (0, 0))) ∧ ∀ j, j < n → SpAt w w b ga j := by
  subst hn
  rcases Nat.eq_zero_or_pos hs.length with h0 | hp
  · exact ⟨0, fun hp => by omega, fun j hj => by omega⟩
  · obtain ⟨ga, cap, e, hb, _, hc⟩ := Kd.N_form h hp
    injection e with e1
    subst e1
    exact ⟨ga, fun _ => ⟨rfl, hb, hc⟩, fun j hj => spAt_of rfl h (fun k hk => hk) j hj⟩
/-- One of them is written: whatever it is. -/
theorem spAt_calls {Wt W : World} {lo ga j : Nat} (h : SpAt Wt W lo ga j) : ∃ A n c, Wt.cell? ⟨ga, j * 2 + 1, none⟩ = some (.slice A n c) ∧ ∀ W1, Below W.heap.size W W1 → Calls Try.prog 16 #[.slice A n c] W1 fun e w' => e = .returned (.tuple #[]) ∧ ∃ gb, (gb ≠ ga ∨ Below W.heap.size W w') ∧ (lo ≤ gb ∧ gb < Wt.heap.size ∨ Below W.heap.size W w') ∧ Fr W w' (fun k => k = gb) ∧ ∀ m, Spoils W gb m → Spoils w' gb m := by
  obtain ⟨A, n, c, h1, h2, h3⟩ := h
  refine ⟨A, n, c, h1, fun W1 hW => ?_⟩
  rcases h3 with rfl | ⟨gb, rfl, h4, h5, h6, h7⟩
  · refine spoil_nil.mono ?_
    rintro e w' ⟨rfl, hb⟩
    have hb2 := below_step hW hb
    exact ⟨rfl, 0, .inr hb2, .inr hb2, Fr.of_below hb2 _, fun m hm => hm.below hb2⟩
  · refine (spoil_some h2 (h7.below hW)).mono ?_
    rintro e w' ⟨rfl, hs, hf⟩
    exact ⟨rfl, gb, .inl h4, .inl ⟨h5, h6⟩, (Fr.of_below hW (fun k => k = gb)).then_ hf (fun k hk => .inl hk), fun m hm => hs m (hm.below hW)⟩
def RelM (w : World) (g gr N : Nat) (n : Nat) (v10 : Value) (wr : World) : Prop := ∃ (i : Nat) (an : List (List S56)) (hs : List Hd), i + n = N ∧ v10 = .int .i64 i ∧ i ≤ 100 ∧ hs.length ≤ i ∧ an.length * 24 ≤ 140737488351232 ∧ (∀ x, x ∈ an → x.length * 16 ≤ 140737488351232) ∧ (∀ x, x ∈ hs → x.args.length * 16 ≤ 140737488351232) ∧ Tw w wr g gr (fun k => k < w.heap.size) an hs an hs
def RelN (w Wt : World) (g gr lo ga : Nat) (P : Nat → Prop) (an : List (List S56)) (hs : List Hd) (n : Nat) (v18 : Value) (wr : World) : Prop := ∃ i : Nat, i + n = hs.length ∧ v18 = .int .i64 i ∧ Tw w wr g gr P an hs an hs ∧ (0 < hs.length → wr.heap[ga]? = Wt.heap[ga]?) ∧ Wt.heap.size ≤ wr.heap.size ∧ ∀ j, j < hs.length → SpAt Wt wr lo ga j
/-- The second host's cells. -/
theorem Tw.rcells {w0 W : World} {g gr : Nat} {P : Nat → Prop} {an1 an2 : List (List S56)} {hs1 hs2 : List Hd} (h : Tw w0 W g gr P an1 hs1 an2 hs2) : ∃ A c B d, W.heap[gr]? = some (.cells #[.slice A an2.length c, .slice B hs2.length d] 48 (0, 0)) ∧ Kd.N k52 52 W 0 (fun _ => True) (.slice B hs2.length d) hs2 := by
  obtain ⟨S, A, c, u, h1, h2, h3, h4, h5⟩ := h.h2
  obtain ⟨B, d, rfl⟩ := Kd.N_slice h5
  exact ⟨A, c, B, d, h1, Kd.N_mono h5 (fun _ _ => trivial)⟩
theorem Tw.more {w0 W W1 : World} {g gr : Nat} {P : Nat → Prop} {an1 an2 : List (List S56)} {hs1 hs2 : List Hd} (h : Tw w0 W g gr P an1 hs1 an2 hs2) (hb : Below W.heap.size W W1) : ∃ Q : Nat → Prop, Tw w0 W1 g gr Q an1 hs1 an2 hs2 ∧ (∀ k, P k → Q k) ∧ ∀ k, W.heap.size ≤ k → k < W1.heap.size → Q k :=
  ⟨_, h.guard hb, fun k hk => .inl hk, fun k h1 h2 => .inr ⟨h1, h2⟩⟩
theorem Spoils.le {W : World} {g n m : Nat} (h : Spoils W g n) (hm : m ≤ n) : Spoils W g m := by
  obtain ⟨cs, t, h1, h2⟩ := h
  exact ⟨cs, t, h1, fun j hj => h2 j (by omega)⟩
theorem C_lent {W : World} {vs : List S56} {g c : Nat} (h : k56.R 56 W 0 (fun _ => True) (.slice (some ⟨g, 0, none⟩) (vs.length + 2) c) (vs ++ zz)) : k56.C W (some ⟨g, 0, none⟩) vs.length vs := by
  have h2 := Kd.C_take (m := vs.length) (Kd.R_reads' h).2.2 (by simp)
  simpa using h2
theorem C_lent2 {W : World} {vs : List S56} {g c : Nat} (h : k56.R 56 W 0 (fun _ => True) (.slice (some ⟨g, 0, none⟩) (vs.length + 2) c) (vs ++ zz)) : k56.C W (some ⟨g, 0, none⟩) (vs.length + 2) (vs ++ zz) := by
  have := (Kd.R_reads' h).2.2
  simpa [zz] using this
theorem lent_keep {W W1 : World} {vs : List S56} {g c : Nat} (hc : vs.length + 2 ≤ c) (h : k56.R 56 W 0 (fun _ => True) (.slice (some ⟨g, 0, none⟩) (vs.length + 2) c) (vs ++ zz)) (e : W1.heap[g]? = W.heap[g]?) : k56.R 56 W1 0 (fun _ => True) (.slice (some ⟨g, 0, none⟩) (vs.length + 2) c) (vs ++ zz) := by
  obtain ⟨c', e', _, h'⟩ := kLent_keep (x := ⟨vs, g⟩) ⟨c, rfl, hc, h⟩ e
  obtain rfl : c = c' := by simpa using e'
  exact h'
theorem spoils_lent {W : World} {vs : List S56} {g c : Nat} (h : k56.R 56 W 0 (fun _ => True) (.slice (some ⟨g, 0, none⟩) (vs.length + 2) c) (vs ++ zz)) : Spoils W g vs.length := by
  obtain ⟨g', e, _, hs⟩ := spoils_of_R h (by omega)
  obtain rfl : g = g' := by simpa using e
  exact hs.le (by omega)
section
variable {w0 W : World} {g gr : Nat} {P : Nat → Prop} {an1 an2 : List (List S56)} {hs1 hs2 : List Hd}
theorem left_tw (h : Tw w0 W g gr P an1 hs1 an2 hs2) : Calls Try.prog 21 #[.pointer (some ⟨g, 0, none⟩)] W fun e w' => e = .returned (.int .i64 an1.length) ∧ Below W.heap.size W w' := by
  obtain ⟨S, hS⟩ := h.h1
  exact left_calls hS
theorem trace_tw (h : Tw w0 W g gr P an1 hs1 an2 hs2) (hlen : hs1.length ≤ 1000) (hargs : ∀ x, x ∈ hs1 → x.args.length * 16 ≤ 140737488351232) :
    Calls Try.prog 22 #[.pointer (some ⟨g, 0, none⟩)] W fun e w' => ∃ A c, e = .returned (.slice A hs1.length c) ∧ Kd.N k52o 52 w' W.heap.size (fun k => W.heap.size ≤ k) (.slice A hs1.length c) hs1 ∧ Below W.heap.size W w' := by
  obtain ⟨S, hS⟩ := h.h1
  exact trace_callsO hS hlen hargs
/-- One spoiling within what the caller holds. -/
theorem Tw.spoilt {W1 : World} {lo hi gb : Nat} (h : Tw w0 W g gr P an1 hs1 an2 hs2) (h2 : lo ≤ gb ∧ gb < hi ∨ Below W.heap.size W W1) (hf : Fr W W1 (fun k => k = gb)) (hP : ∀ k, lo ≤ k → k < hi → P k) (hlo : w0.heap.size ≤ lo) : Tw w0 W1 g gr P an1 hs1 an2 hs2 := by
  rcases h2 with h2 | h2
  · exact h.framed hf (fun k hk => by subst hk; exact ⟨hP _ h2.1 h2.2, Nat.le_trans hlo h2.1⟩)
  · exact h.below h2
end
theorem block_spoilt {W W1 Wt : World} {ga gb : Nat} (h1 : gb ≠ ga ∨ Below W.heap.size W W1) (hf : Fr W W1 (fun k => k = gb)) (e : W.heap[ga]? = Wt.heap[ga]?) (hlt : ga < W.heap.size) : W1.heap[ga]? = Wt.heap[ga]? := by
  rcases h1 with h1 | h1
  · exact (hf.k.2 ga hlt (fun h => h1 h.symm)).trans e
  · exact (h1.block ga hlt).trans e
end Go.Proofs.Ytmofdpkddimmlaa.ETrace
namespace Go.Proofs.Ytmofdpkddimmlaa.ETrace
open Go Go.RowKit Go.Proofs.Ytmofdpkddimmlaa.F Go.Proofs.Ytmofdpkddimmlaa.PureVals Go.Proofs.YtmofdpkddimmlaaW.Hand Go.Proofs.YtmofdpkddimmlaaW.PrintWords Go.Proofs.YtmofdpkddimmlaaW.PrintLast Go.Proofs.YtmofdpkddimmlaaW.PrintMore
set_option linter.unusedVariables false
set_option linter.unusedSimpArgs false
theorem lent_calls {w : World} {A : Option Addr} {c : Nat} {vs : List S56} (h : k56.C w A vs.length vs) (hc : vs.length ≤ c) (hs : vs.length * 16 ≤ 140737488351232) :
    Calls Try.prog 12 #[.slice A vs.length c] w fun e w' => ∃ g cap, e = .returned (.slice (some ⟨g, 0, none⟩) vs.length cap) ∧ vs.length + 2 ≤ cap ∧ w.heap.size ≤ g ∧ g < w'.heap.size ∧ k56.R 56 w' 0 (fun _ => True) (.slice (some ⟨g, 0, none⟩) (vs.length + 2) cap) (vs ++ zz) ∧ Below w.heap.size w w' := by
  refine (lend_calls h hc hs).mono ?_
  rintro e w' ⟨A', cap, rfl, hcap, hR, hb⟩
  obtain ⟨g, rfl, h1, _, h2, h3⟩ := R_low2 hR (by omega)
  exact ⟨g, cap, rfl, hcap, h1, h2, h3, hb⟩
/-- The lent answers so far: their lists are the answers', their blocks are new and apart. -/
def RelL (w : World) (an : List (List S56)) (n : Nat) (v5 v6 : Value) (wr : World) : Prop := ∃ (i : Nat) (ls : List Ln), i + n = an.length ∧ v6 = .int .i64 i ∧ ls.map Ln.vals = an.take i ∧ (ls.map Ln.blk).Nodup ∧ (∀ x, x ∈ ls → w.heap.size ≤ x.blk ∧ x.blk < wr.heap.size) ∧ Kd.N kLent 27 wr w.heap.size (fun j => w.heap.size ≤ j) v5 ls ∧ Below w.heap.size w wr
def RelK (w W : World) (g gr : Nat) (an : List (List S56)) (ls : List Ln) (n : Nat) (v9 : Value) (wr : World) : Prop := ∃ i : Nat, i + n = an.length ∧ v9 = .int .i64 i ∧ Tw w wr g gr (fun k => k < W.heap.size) an [] an [] ∧ W.heap.size ≤ wr.heap.size ∧ ∀ k, k < W.heap.size → (∀ x, x ∈ ls.take i → x.blk ≠ k) → wr.heap[k]? = W.heap[k]?
/-- One lent answer, in its row. -/
theorem lent_at {W : World} {b n : Nat} {ok : Nat → Prop} {A : Option Addr} {c : Nat} {ls : List Ln} {an : List (List S56)} (hn : ls.length = n) (h : Kd.N kLent 27 W b ok (.slice A n c) ls) (hv : ls.map Ln.vals = an) (i : Nat) (hi : i < n) :
    ∃ ga gb cb, A = some ⟨ga, 0, none⟩ ∧ ls[i]? = some ⟨rdA an i, gb⟩ ∧ W.cell? ⟨ga, i, none⟩ = some (.slice (some ⟨gb, 0, none⟩) (rdA an i).length cb) ∧ (rdA an i).length + 2 ≤ cb ∧ k56.R 56 W 0 (fun _ => True) (.slice (some ⟨gb, 0, none⟩) ((rdA an i).length + 2) cb) (rdA an i ++ zz) ∧ ga < W.heap.size ∧ gb < W.heap.size ∧ (∃ cs, W.heap[ga]? = some (.cells cs 27 (0, 0))) := by
  subst hn
  subst hv
  obtain ⟨ga, cap, e, _, hlt, ht⟩ := Kd.N_form h (by omega)
  injection e with e1
  subst e1
  obtain ⟨cs, _, hK, hcc, _⟩ := Kd.N_elem h ⟨[], 0⟩ (i : Int) (by omega) (by omega)
  have hz : ls.getD ((i : Int)).toNat ⟨[], 0⟩ = ls[i] := by simp [List.getD_eq_getElem?_getD, hi]
  have hr : rdA (ls.map Ln.vals) i = ls[i].vals := by simp [rdA, List.getD_eq_getElem?_getD, hi]
  rw [hz] at hK
  obtain ⟨cb, rfl, hcb, hR⟩ := Kd.FK_now hK
  have hgb : ls[i].blk < W.heap.size := by
    obtain ⟨g', c', e, _, h2, _⟩ := Kd.R_form hR (by simp [zz])
    injection e with e _ _
    obtain e := Option.some.inj e
    injection e with e _ _
    omega
  refine ⟨ga, ls[i].blk, cb, rfl, ?_, ?_, by rw [hr]; exact hcb, by rw [hr]; exact hR, hlt, hgb, ht⟩
  · rw [List.getElem?_eq_getElem hi, hr]
  · rw [hr]
    have := hcc 0 _ rfl
    simpa [show kLent.sz = 1 from rfl] using this
theorem take_mem {ls : List Ln} {i : Nat} {x : Ln} (h : x ∈ ls.take i) : ∃ j, j < i ∧ ls[j]? = some x := by
  obtain ⟨j, hj, rfl⟩ := List.mem_iff_getElem.1 h
  have h2 : j < i ∧ j < ls.length := by simp at hj; omega
  exact ⟨j, h2.1, by rw [List.getElem_take, List.getElem?_eq_getElem h2.2]⟩
theorem nodup_blk {ls : List Ln} (h : (ls.map Ln.blk).Nodup) {i j : Nat} {x y : Ln} (hx : ls[j]? = some x) (hy : ls[i]? = some y) (hne : j ≠ i) : x.blk ≠ y.blk := by
  intro e
  obtain ⟨h1, rfl⟩ := List.getElem?_eq_some_iff.1 hx
  obtain ⟨h2, rfl⟩ := List.getElem?_eq_some_iff.1 hy
  exact hne ((List.getElem_inj (h₀ := by simpa using h1) (h₁ := by simpa using h2) h).1 (by simpa using e))
theorem Tw.make {w W W1 W2 : World} {g gr : Nat} {an1 an2 : List (List S56)} (h1 : Hs W1 g (fun k => W.heap.size ≤ k) an1 []) (hb1 : Below W.heap.size W W1) (h2 : Rs W2 gr (fun k => W1.heap.size ≤ k) an2 []) (hb2 : Below W1.heap.size W1 W2) (hb : Below w.heap.size w W) : Tw w W2 g gr (fun k => k < W.heap.size) an1 [] an2 [] := by
  have s0 := hb.size
  have s1 := hb1.size
  have s2 := hb2.size
  exact ⟨_, _, h1.bound.below hb2, h2.bound, fun k hk => ⟨fun hn => by have := hk.2; have := hn.1; omega, by have := hk.1; omega, by have := hk.1; omega, by have := hk.2; omega⟩,
    fun k hk => ⟨by have := hk.1; omega, by have := hk.1; omega, hk.2⟩, fun k hk => by omega, fun k hk => by omega, below_step (below_step hb hb1) hb2⟩
end Go.Proofs.Ytmofdpkddimmlaa.ETrace
