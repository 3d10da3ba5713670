/-
  peloruslaw11.TraceOrder answers true.
-/
import Derived.Test.YtmofdpkddimmlaaETraceAwake
import Derived.Test.YtmofdpkddimmlaaETraceLogN
namespace Go.Proofs.Ytmofdpkddimmlaa.ETrace
open Go Go.RowKit Go.Proofs.Ytmofdpkddimmlaa.F Go.Proofs.Ytmofdpkddimmlaa.PureVals Go.Proofs.YtmofdpkddimmlaaW.Hand Go.Proofs.YtmofdpkddimmlaaW.PrintWords Go.Proofs.YtmofdpkddimmlaaW.PrintLast Go.Proofs.YtmofdpkddimmlaaW.PrintMore
set_option linter.unusedVariables false
set_option linter.unusedSimpArgs false
theorem FK_27F {W : World} {vs : List S56} {A : Option Addr} {c : Nat} {ok : Nat → Prop} (h : Kd.F k56 W ok A vs.length vs) (hc : vs.length ≤ c) : Kd.FK k27 W ok vs [.slice A vs.length c] := fun W' hW => k27_mk (h W' hW) hc
theorem Pr.less {w0 W : World} {g : Nat} {P Q : Nat → Prop} {an : List (List S56)} {hs : List Hd} (h : Pr w0 W g P an hs) (hq : ∀ k, Q k → P k) (h0 : ∀ k, k < w0.heap.size → Q k) : Pr w0 W g Q an hs :=
  ⟨h.1.mono (fun k hk hn => hk (hq k hn)), fun k hk => h.2.1 k (hq k hk), h0, h.2.2.2⟩
def ansTo (k : Nat) : List (List S56) := (List.range k).map (fun j : Nat => [(⟨126, 100 + (j : Int)⟩ : S56)])
def hdTo (m : Nat) : List Hd := (List.range m).map (fun j : Nat => (⟨(j : Int), [(⟨127, (j : Int)⟩ : S56)]⟩ : Hd))
theorem ansTo_len (k : Nat) : (ansTo k).length = k := by simp [ansTo]
theorem hdTo_len (k : Nat) : (hdTo k).length = k := by simp [hdTo]
theorem ansTo_succ (i : Nat) : ansTo i ++ [[(⟨126, 100 + (i : Int)⟩ : S56)]] = ansTo (i + 1) := by simp [ansTo, List.range_succ]
theorem hdTo_succ (i : Nat) : hdTo i ++ [(⟨(i : Int), [(⟨127, (i : Int)⟩ : S56)]⟩ : Hd)] = hdTo (i + 1) := by simp [hdTo, List.range_succ]
theorem ansTo_drop {i k : Nat} (h : i < k) : (ansTo k).drop i = [(⟨126, 100 + (i : Int)⟩ : S56)] :: (ansTo k).drop (i + 1) := by
  rw [List.drop_eq_getElem_cons (by rw [ansTo_len]; exact h)]
  simp [ansTo]
theorem ansTo_done {i k : Nat} (h : k ≤ i) : (ansTo k).drop i = [] := by
  rw [List.drop_eq_nil_iff, ansTo_len]; exact h
theorem ansTo_small (k : Nat) (x : List S56) (h : x ∈ ansTo k) : x.length * 16 ≤ 140737488351232 := by
  simp only [ansTo, List.mem_map] at h
  obtain ⟨j, _, rfl⟩ := h
  simp
theorem hdTo_small (k : Nat) (x : Hd) (h : x ∈ hdTo k) : x.args.length * 16 ≤ 140737488351232 := by
  simp only [hdTo, List.mem_map] at h
  obtain ⟨j, _, rfl⟩ := h
  simp
theorem rd_hdTo {i k : Nat} (h : i < k) : rdH (hdTo k) i = ⟨(i : Int), [(⟨127, (i : Int)⟩ : S56)]⟩ := by simp [rdH, hdTo, List.getD_eq_getElem?_getD, h]
theorem and_nat (n : Int) (m : Nat) (hm : m ≤ 31) : ∃ x : Nat, Go.bits .and .i64 n (m : Int) = (x : Int) ∧ x ≤ m := by
  have e : Go.bits .and .i64 n (m : Int) = IntKind.i64.wrap ((BitVec.ofInt 64 n &&& BitVec.ofInt 64 (m : Int)).toNat : Int) := rfl
  have h1 : (BitVec.ofInt 64 n &&& BitVec.ofInt 64 (m : Int)).toNat ≤ m := by
    rw [BitVec.toNat_and]
    refine Nat.le_trans Nat.and_le_right ?_
    rw [BitVec.toNat_ofInt]
    omega
  refine ⟨(BitVec.ofInt 64 n &&& BitVec.ofInt 64 (m : Int)).toNat, ?_, h1⟩
  rw [e, IntKind.wrap_i64]
  omega
/-- One thing heard, in what Trace returned. -/
theorem heardN_at {w : World} {base n : Nat} {ok : Nat → Prop} {A : Option Addr} {c : Nat} {hs : List Hd} (hn : hs.length = n) (h : Kd.N k52 52 w base ok (.slice A n c) hs) (i : Nat) (hi : i < n) :
    ∃ ga B cb, A = some ⟨ga, 0, none⟩ ∧ w.cell? ⟨ga, i * 2, none⟩ = some (.int .i64 (rdH hs i).fn) ∧ w.cell? ⟨ga, i * 2 + 1, none⟩ = some (.slice B (rdH hs i).args.length cb) ∧ (rdH hs i).args.length ≤ cb ∧ Kd.F k56 w ok B (rdH hs i).args.length (rdH hs i).args := by
  subst hn
  exact heard_at (Kd.N_lower h (Nat.zero_le _)) i hi
theorem new_n {w : World} {A : Option Addr} {c n : Nat} {an : List (List S56)} (hn : an.length = n) (h : k27.C w A n an) (hlen : n * 24 ≤ 140737488351232) (hargs : ∀ x, x ∈ an → x.length * 16 ≤ 140737488351232) :
    Calls Try.prog 13 #[.slice A n c] w fun e w' => ∃ g, e = .returned (.pointer (some ⟨g, 0, none⟩)) ∧ Hs w' g (fun k => w.heap.size ≤ k) an [] ∧ Below w.heap.size w w' := by
  subst hn
  exact new_calls h hlen hargs
theorem trace_n {w : World} {g n : Nat} {S : Nat → Prop} {an : List (List S56)} {hs : List Hd} (hn : hs.length = n) (h : Hs w g S an hs) (hlen : n ≤ 1000) (hargs : ∀ x, x ∈ hs → x.args.length * 16 ≤ 140737488351232) :
    Calls Try.prog 22 #[.pointer (some ⟨g, 0, none⟩)] w fun e w' => ∃ A c, e = .returned (.slice A n c) ∧ Kd.N k52 52 w' w.heap.size (fun k => w.heap.size ≤ k) (.slice A n c) hs ∧ Below w.heap.size w w' := by
  subst hn
  exact trace_callsN h hlen hargs
theorem left_n {w : World} {g n : Nat} {S : Nat → Prop} {an : List (List S56)} {hs : List Hd} (hn : an.length = n) (h : Hs w g S an hs) : Calls Try.prog 21 #[.pointer (some ⟨g, 0, none⟩)] w fun e w' => e = .returned (.int .i64 n) ∧ Below w.heap.size w w' := by
  subst hn
  exact left_calls h
theorem fit_126 (x : Int) : fitV [126] [(⟨126, x⟩ : S56)] = true := by
  unfold fitV
  simp [rd_T56, rd, mayV]
def RelO1 (w : World) (k n : Nat) (v7 v8 : Value) (wr : World) : Prop := ∃ i : Nat, i + n = k ∧ v8 = .int .i64 i ∧ Kd.N k27 27 wr w.heap.size (fun j => w.heap.size ≤ j) v7 (ansTo i) ∧ Below w.heap.size w wr
def RelO2 (w : World) (g k m n : Nat) (v10 : Value) (wr : World) : Prop := ∃ i : Nat, i + n = m ∧ v10 = .int .i64 i ∧ Pr w wr g (fun j => j < w.heap.size) ((ansTo k).drop i) (hdTo i)
def RelO3 (w : World) (m n : Nat) (v14 : Value) (wr : World) : Prop := ∃ i : Nat, i + n = m ∧ v14 = .int .i64 i ∧ Below w.heap.size w wr
set_option maxHeartbeats 4000000 in
set_option maxRecDepth 100000 in
theorem order_nat {w : World} {many calls : Int} {k m : Nat} (ek : Go.bits .and .i64 many 15 = (k : Int)) (em : Go.bits .and .i64 calls 31 = (m : Int)) (hk : k ≤ 15) (hm : m ≤ 31) : Calls Try.prog 4 #[.int .i64 many, .int .i64 calls] w fun e w' => e = .returned (.bool true) ∧ Below w.heap.size w w' := by
  have hu27 := Try.underlying27
  have hu22 := Try.underlying22
  have hu24 := Try.underlying24
  have hu34 := Try.underlying34
  have hu36 := Try.underlying36
  have hu46 := Try.underlying46
  have hu52 := Try.underlying52
  have hu56 := Try.underlying56
  have HK := Aside0.mk hk
  have HM := Aside0.mk hm
  go_enter Try.func4, Try.ntmps4
  go_wp2_with (first
    | (go_at_call 24; (with_reducible refine (awake_calls _).mono ?_); rintro e w1 ⟨rfl, hb⟩; have HB1 := Aside0.mk hb; clear hb))
  go_loopg [7, 8] k (fun n v7 v8 wr => RelO1 w k n v7 v8 wr)
  case atStart => exact ⟨0, by omega, rfl, Kd.N_nil _ _ _ _ _, HB1.out⟩
  case round =>
    obtain ⟨i, hi, rfl, hN, hb⟩ := hrel
    have I3 := Aside0.mk hi
    have R3 := Aside0.mk hN
    have HB := Aside0.mk hb
    obtain ⟨A3, c3, hv3⟩ := Kd.N_slice hN
    rw [ansTo_len] at hv3
    subst hv3
    clear hi hN hb HB1
    by_cases hlt : i < k
    · have dl : decide (i < k) = true := by simpa using hlt
      have w1 : wrap64 (100 + (i : Int)) = 100 + (i : Int) := by unfold wrap64; omega
      have w2 : wrap64 ((i : Int) + 1) = (i : Int) + 1 := by unfold wrap64; omega
      have HLT := Aside0.mk hlt
      go_wp2_with (first
        | ((with_reducible refine gate_dst (N := 30) rfl ?_); refine lit_event ?hg (N := 30) ?hd (cs := #[.int .i64 126, .int .i64 (100 + (i : Int))]) (t := 56) (n := 1) ?hr ?_; (case hd => rfl); (case hg => rfl); (case hr => first | (go_simp; done) | (go_simp; rfl)); intro la hgla wa hA hb; have A1 := Aside0.mk hA; have H1 := Aside0.mk (below_step HB.out hb); have LA := Aside0.mk (show wr.heap.size ≤ la by rw [hgla]; exact Nat.le_refl _); have R4 := Aside0.mk (Kd.N_below R3.out hb); clear hA hb hgla)
        | ((with_reducible refine gate_dst (N := 32) rfl ?_); refine lit_event ?hg (N := 32) ?hd (cs := #[.slice (some ⟨la, 0, none⟩) 1 1]) (t := 27) (n := 1) ?hr ?_; (case hd => rfl); (case hg => rfl); (case hr => first | (go_simp; done) | (go_simp; rfl)); intro lb hglb wb hA hb; have A2 := Aside0.mk (blk_below A1.out hb); have B2 := Aside0.mk hA; have H2 := Aside0.mk (below_step H1.out hb); have LB := Aside0.mk (show wr.heap.size ≤ lb by rw [hglb]; exact Nat.le_trans LA.out (Nat.le_of_lt (blk_lt A1.out))); have R5 := Aside0.mk (Kd.N_below R4.out hb); clear hA hb hglb A1 R4 H1)
        | ((with_reducible refine gate_dst (N := 33) rfl ?_); refine Kd.N_append_rows k27 (w0 := w) w.heap.size rfl (.tmp 26) (.tmp 32) 22 27 (.agg #[.slice none 0 0]) 24 rfl hu22 (by kernel_rfl) rfl (by decide) (by decide) (.slice A3 i c3) (ansTo i) [[(⟨126, 100 + (i : Int)⟩ : S56)]] (some ⟨lb, 0, none⟩) 1 1 (fun j => w.heap.size ≤ j) (fun j => w.heap.size ≤ j ∧ some j ≠ (Value.slice A3 i c3).ownBlock) ?h1 ?h2 R5.out (F_one B2.out ⟨Nat.le_trans HB.out.size LB.out, fun e => by have := Kd.N_lt R3.out lb e.symm; have := LB.out; omega⟩ (FK_27F (vs := [(⟨126, 100 + (i : Int)⟩ : S56)]) (F_val A2.out ⟨Nat.le_trans HB.out.size LA.out, fun e => by have := Kd.N_lt R3.out la e.symm; have := LA.out; omega⟩) (Nat.le_refl _))) (fun _ hk => hk) (fun _ hk => Nat.le_trans H2.out.size hk) H2.out H2.out.size (by have := HK.out; have := HLT.out; rw [ansTo_len]; omega) ?_; (case h1 => first | rfl | (simp; done)); (case h2 => rfl); intro v6 wc hN hb _ _; rw [ansTo_succ] at hN; have RZ := Aside0.mk hN; have HBZ := Aside0.mk hb; clear hN hb))
      go_roundg (k - (i + 1))
      case measure => have := I3.out; have := HLT.out; omega
      case rel => exact ⟨i + 1, by have := HLT.out; omega, by go_num, RZ.out, HBZ.out⟩
    · have dl : decide (i < k) = false := by simpa using hlt
      obtain rfl : k = i := by have := I3.out; omega
      have CN := Aside0.mk (show k27.C wr A3 k (ansTo k) from by have := (Kd.N_reads' R3.out).2.2; rwa [ansTo_len] at this)
      clear hlt I3 R3
      go_wp2_with (first
        | (go_at_call 13; (refine (new_n (ansTo_len k) CN.out (by have := HK.out; omega) (ansTo_small k)).mono ?_); rintro e w3 ⟨g, rfl, hh, hb⟩; have P3 := Aside0.mk (Pr.begin hh HB.out hb); clear hh hb))
      go_loopg [10] m (fun n v10 wr => RelO2 w g k m n v10 wr)
      case atStart => exact ⟨0, by omega, rfl, P3.out⟩
      case round =>
        clear P3 HB
        obtain ⟨i, hi, rfl, hP⟩ := hrel
        have I4 := Aside0.mk hi
        clear hi
        by_cases hlt : i < m
        · have dl2 : decide (i < m) = true := by simpa using hlt
          have w1 : wrap64 (100 + (i : Int)) = 100 + (i : Int) := by unfold wrap64; omega
          have w2 : wrap64 ((i : Int) + 1) = (i : Int) + 1 := by unfold wrap64; omega
          have HLT := Aside0.mk hlt
          by_cases hik : i < k
          · have dk : decide (i < k) = true := by simpa using hik
            have dg : decide (k ≤ i) = false := by simp; omega
            rw [ansTo_drop hik] at hP
            have P4 := Aside0.mk hP
            have X1 := Aside0.mk (fit_126 (100 + (i : Int)))
            clear hP hik
            go_wp2_with (first
              | ((with_reducible refine gate_dst (N := 44) rfl ?_); refine lit_event ?hg (N := 44) ?hd (cs := #[.int .i64 126]) (t := 3) (n := 1) ?hr ?_; (case hd => rfl); (case hg => rfl); (case hr => first | (go_simp; done) | (go_simp; rfl)); intro rl hgrl wa hA hb; have R4 := Aside0.mk hA; have Ha := Aside0.mk hb; have LR := Aside0.mk (show wr.heap.size ≤ rl by rw [hgrl]; exact Nat.le_refl _); clear hA hb hgrl)
              | ((with_reducible refine gate_dst (N := 48) rfl ?_); refine lit_event ?hg (N := 48) ?hd (cs := #[.int .i64 127, .int .i64 i]) (t := 56) (n := 1) ?hr ?_; (case hd => rfl); (case hg => rfl); (case hr => first | (go_simp; done) | (go_simp; rfl)); intro lc hglc wb hA hb; have A5 := Aside0.mk hA; have P5 := Aside0.mk (P4.out.guard (below_step Ha.out hb)); have RS5 := Aside0.mk (F_intr (ok := fun j => j < w.heap.size ∨ (wr.heap.size ≤ j ∧ j < wb.heap.size)) (blk_below R4.out hb) (.inr ⟨LR.out, blk_lt (blk_below R4.out hb)⟩)); clear hA hb hglc P4 R4 Ha LR)
              | (go_at_call 17; (refine (pcall_ok (f := (i : Int)) (rs := [126]) (vs := [(⟨126, 100 + (i : Int)⟩ : S56)]) (args := [(⟨127, (i : Int)⟩ : S56)]) P5.out (Int.natCast_nonneg i) (by rw [hdTo_len]; have := HLT.out; have := HM.out; omega) RS5.out (Nat.le_refl _) (Kd.F_now (F_val (ok := fun _ => True) A5.out trivial)) (by simp) X1.out (by simp)).mono ?_); rintro e w5 ⟨Ap, cp, mm, rfl, hp, hmm, hR, hk'⟩; obtain ⟨ad, rfl, e0, e1⟩ := at_T56 (Kd.R_reads' hR).2.2 0 (by simp) (by simp); obtain ⟨gb, rfl⟩ := Kd.R_head hR; have P6 : Aside0 (Pr w w5 g (fun j => j < w.heap.size) ((ansTo k).drop (i + 1)) (hdTo (i + 1))) := ⟨by rw [← hdTo_succ]; exact hp.less (fun _ h => .inl (.inl h)) (fun _ h => h)⟩; have z1 : w5.cell? ⟨gb, 1, none⟩ = some (.int .i64 (100 + (i : Int))) := e1; clear hp hmm hR hk' e0 e1 P5 RS5 X1 A5)
              | (go_at_call 20; (with_reducible refine (num_calls _ _).mono ?_); rintro e w' ⟨rfl, rfl⟩))
            go_roundg (m - (i + 1))
            case measure => have := I4.out; have := HLT.out; omega
            case rel => exact ⟨i + 1, by have := HLT.out; omega, by go_num, P6.out⟩
          · have dk : decide (i < k) = false := by simpa using hik
            have dg : decide (k ≤ i) = true := by simp; omega
            rw [ansTo_done (show k ≤ i by omega)] at hP
            have P4 := Aside0.mk hP
            have HIK := Aside0.mk (show k ≤ i + 1 by omega)
            clear hP hik
            go_wp2_with (first
              | ((with_reducible refine gate_dst (N := 44) rfl ?_); refine lit_event ?hg (N := 44) ?hd (cs := #[.int .i64 126]) (t := 3) (n := 1) ?hr ?_; (case hd => rfl); (case hg => rfl); (case hr => first | (go_simp; done) | (go_simp; rfl)); intro rl hgrl wa hA hb; have R4 := Aside0.mk hA; have Ha := Aside0.mk hb; have LR := Aside0.mk (show wr.heap.size ≤ rl by rw [hgrl]; exact Nat.le_refl _); clear hA hb hgrl)
              | ((with_reducible refine gate_dst (N := 48) rfl ?_); refine lit_event ?hg (N := 48) ?hd (cs := #[.int .i64 127, .int .i64 i]) (t := 56) (n := 1) ?hr ?_; (case hd => rfl); (case hg => rfl); (case hr => first | (go_simp; done) | (go_simp; rfl)); intro lc hglc wb hA hb; have A5 := Aside0.mk hA; have P5 := Aside0.mk (P4.out.guard (below_step Ha.out hb)); have RS5 := Aside0.mk (F_intr (ok := fun j => j < w.heap.size ∨ (wr.heap.size ≤ j ∧ j < wb.heap.size)) (blk_below R4.out hb) (.inr ⟨LR.out, blk_lt (blk_below R4.out hb)⟩)); clear hA hb hglc P4 R4 Ha LR)
              | (go_at_call 17; (refine (pcall_none (f := (i : Int)) (rs := [126]) (args := [(⟨127, (i : Int)⟩ : S56)]) P5.out (Int.natCast_nonneg i) (by rw [hdTo_len]; have := HLT.out; have := HM.out; omega) RS5.out (Nat.le_refl _) (Kd.F_now (F_val (ok := fun _ => True) A5.out trivial)) (by simp)).mono ?_); rintro e w5 ⟨rfl, hp, hk'⟩; have P6 : Aside0 (Pr w w5 g (fun j => j < w.heap.size) ((ansTo k).drop (i + 1)) (hdTo (i + 1))) := ⟨by rw [← hdTo_succ, ansTo_done HIK.out]; exact hp.less (fun _ h => .inl h) (fun _ h => h)⟩; clear hp hk' P5 RS5 A5)
              | (go_at_call 20; (with_reducible refine (num_calls _ _).mono ?_); rintro e w' ⟨rfl, rfl⟩))
            go_roundg (m - (i + 1))
            case measure => have := I4.out; have := HLT.out; omega
            case rel => exact ⟨i + 1, by have := HLT.out; omega, by go_num, P6.out⟩
        · have dl2 : decide (i < m) = false := by simpa using hlt
          obtain rfl : m = i := by have := I4.out; omega
          have P4 := Aside0.mk hP
          clear hP hlt I4
          go_wp2_with (first
            | (go_at_call 22; (with_reducible refine (trace_n (hdTo_len m) P4.out.host (by have := HM.out; omega) (hdTo_small m)).mono ?_); rintro e w3 ⟨A4, c4, rfl, hN, hb⟩; have P5 := Aside0.mk (P4.out.below hb); have F5 := Aside0.mk (heardN_at (hdTo_len m) hN); clear hN hb P4))
          go_loopg [14] m (fun n v14 wr => RelO3 w3 m n v14 wr)
          case atStart => exact ⟨0, by omega, rfl, by first | exact Below.refl _ _ | exact below_drew (Below.refl _ _)⟩
          case round =>
            obtain ⟨i, hi, rfl, hb⟩ := hrel
            have I5 := Aside0.mk hi
            have HB5 := Aside0.mk hb
            clear hi hb
            by_cases hlt : i < m
            · have dl3 : decide (i < m) = true := by simpa using hlt
              have w2 : wrap64 ((i : Int) + 1) = (i : Int) + 1 := by unfold wrap64; omega
              have HLT := Aside0.mk hlt
              obtain ⟨ga, B, cb, rfl, e1, e2, hcb, hFx⟩ := F5.out i hlt
              rw [rd_hdTo hlt] at e1 e2 hcb hFx
              obtain ⟨bd, rfl, e3, e4⟩ := at_T56 (Kd.F_now hFx) 0 (by simp) (by simp)
              have z1 : wr.cell? ⟨ga, i * 2, none⟩ = some (.int .i64 i) := pw_cell_below HB5.out e1
              have z2 : wr.cell? ⟨ga, i * 2 + 1, none⟩ = some (.slice (some bd) 1 cb) := pw_cell_below HB5.out e2
              have z3 : wr.cell? ⟨bd.block, bd.off + 1, none⟩ = some (.int .i64 i) := pw_cell_below HB5.out e4
              clear e1 e2 e3 e4 hFx
              go_wp2
              go_roundg (m - (i + 1))
              case measure => have := I5.out; have := HLT.out; omega
              case rel => exact ⟨i + 1, by have := HLT.out; omega, by go_num, HB5.out⟩
            · have dl3 : decide (i < m) = false := by simpa using hlt
              obtain rfl : m = i := by have := I5.out; omega
              have P6 := Aside0.mk (P5.out.below HB5.out)
              have w4 : wrap64 ((k : Int) - (m : Int)) = (k : Int) - (m : Int) := by unfold wrap64; omega
              clear hlt I5 P5
              have d4 : (m < k ∧ (((k - m : Nat) : Int) == (k : Int) - (m : Int)) = true) ∨ (¬ m < k ∧ (((k - m : Nat) : Int) == 0) = true) := by
                by_cases h : m < k
                · exact .inl ⟨h, by simp; omega⟩
                · exact .inr ⟨h, by simp; omega⟩
              rcases d4 with ⟨d5, d4⟩ | ⟨d5, d4⟩ <;>
              go_wp2_with (first
                | (go_at_call 21; (with_reducible refine (left_n (show ((ansTo k).drop m).length = k - m by rw [List.length_drop, ansTo_len]) P6.out.host).mono ?_); rintro e w4 ⟨rfl, hb⟩; have P7 := Aside0.mk (P6.out.below hb); clear hb P6))
              · go_ret
                exact ⟨rfl, P7.out.all⟩
              · go_ret
                exact ⟨rfl, P7.out.all⟩
theorem order_calls {w : World} {many calls : Int} : Calls Try.prog 4 #[.int .i64 many, .int .i64 calls] w fun e w' => e = .returned (.bool true) ∧ Below w.heap.size w w' := by
  obtain ⟨k, ek, hk⟩ := and_nat many 15 (by decide)
  obtain ⟨m, em, hm⟩ := and_nat calls 31 (by decide)
  exact order_nat ek em hk hm
end Go.Proofs.Ytmofdpkddimmlaa.ETrace
