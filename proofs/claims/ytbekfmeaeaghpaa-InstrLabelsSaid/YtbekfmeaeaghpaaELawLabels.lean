/-
  InstrLabels: the walk.
-/
import Derived.Test.YtbekfmeaeaghpaaD14G
import Derived.Laws.MakeOwn
namespace Go.Proofs.Ytbekfmeaeaghpaa.EInstr
open Go Go.RowKit Go.Proofs.Ytbekfmeaeaghpaa.F Go.Proofs.YtbekfmeaeaghpaaW.Hand Go.Proofs.YtbekfmeaeaghpaaW.PrintWords Go.Proofs.YtbekfmeaeaghpaaW.PrintLast Go.Proofs.YtbekfmeaeaghpaaW.PrintMore
open Go.Proofs.YtbekfmeaeaghpaaW.Byt
set_option linter.unusedVariables false
set_option linter.unusedSimpArgs false
section
variable {P : Program} {ops : Array Oper} {rest : List Oper} {o : Oper} {a : Act} {Q : Exit → Act → World → Prop}
theorem make_event {W : World} {t e : TypeId} {i : TypeInfo} {z : Value} {n : Nat} {l c : Operand} (hgd : o.guard = none) (ho : o.op = .makeSlice t l c) (hl : a.eval l = .int .i64 (n : Int)) (hc : a.eval c = .int .i64 (n : Int)) (ht : P.underlying t = some (.slice e)) (hi : P.info? e = some i) (hz : i.zero = some z) (hb : i.bytes * n ≤ 281474976710656) (hn : n ≤ 9223372036854775807)
    (h : ∀ g, g = W.heap.size → ∀ w1, w1.heap[g]? = some (.cells (madeCells z.cells (n * i.size)) e (0, 0)) → Below W.heap.size W w1 → wpList P ops Q rest (a.put o.dst (.slice (some ⟨g, 0, none⟩) n n)) w1) : wpList P ops Q (o :: rest) a W := by
  have hr := run_make (P := P) W t e i z ht hi hz .i64 .i64 n n (by omega) (Int.le_refl _) (by have : ((i.bytes * n : Nat) : Int) ≤ 281474976710656 := (by omega); rwa [Int.natCast_mul] at this) (by omega)
  simp only [Int.toNat_natCast] at hr
  have hrun : (execOp a.eval o).run P W = .ok (.value (.slice (some ⟨W.heap.size, 0, none⟩) n n)) (W.alloc (.cells (madeCells z.cells (n * i.size)) e)) := by
    unfold execOp
    rw [ho]
    simp only [hl, hc]
    rw [Sem.run_bind, hr]
    rfl
  exact Kd.event_run hgd hrun (h _ rfl _ (blk_new W _) (below_alloc (Below.refl _ _) _))
end
theorem made_int (n : Nat) : madeCells (Value.cells (.int .i64 0)) (n * 1) = (List.replicate n (.int .i64 0 : Value)).toArray := by
  apply Array.ext'
  rw [Nat.mul_one]
  simp only [madeCells]
  apply List.ext_getElem
  · simp
  · intro i h1 h2
    simp [Value.cells, Nat.mod_one]
theorem reps_zero (n : Nat) (W : World) : Reps ((Kd.int .i64).K W) 1 (List.replicate n 0) (List.replicate n (.int .i64 0 : Value)) := by
  induction n with
  | zero => exact reps_nil
  | succ n ih =>
    rw [List.replicate_succ, List.replicate_succ]
    exact reps_cons (cs := [.int .i64 0]) rfl rfl ih
theorem c_zero {W : World} {g n : Nat} (hn : n ≤ 9223372036854775807) (h : W.heap[g]? = some (.cells (madeCells (Value.cells (.int .i64 0)) (n * 1)) 3 (0, 0))) : (Kd.int .i64).C W (some ⟨g, 0, none⟩) n (List.replicate n 0) := by
  rw [made_int] at h
  have := c_reps (d := Kd.int .i64) (xs := List.replicate n (0 : Int)) (inner := List.replicate n (.int .i64 0 : Value)) h (reps_zero n W) (by simpa using hn)
  simpa using this
theorem info3l : (Try.prog.info? 3).map (fun i => (i.zero, i.size, i.bytes)) = some (some (.int .i64 0), 1, 8) := by kernel_rfl
theorem info3m : ∃ i : TypeInfo, Try.prog.info? 3 = some i ∧ i.zero = some (.int .i64 0) ∧ i.size = 1 ∧ i.bytes = 8 := by
  have h := info3l
  cases hi : Try.prog.info? 3 with
  | none => rw [hi] at h; cases h
  | some i =>
    rw [hi] at h
    simp only [Option.map_some, Option.some.injEq, Prod.mk.injEq] at h
    exact ⟨i, rfl, h.1, h.2.1, h.2.2⟩
theorem make3 {ops : Array Oper} {rest : List Oper} {o : Oper} {a : Act} {Q : Exit → Act → World → Prop} {W : World} {n : Nat} {l c : Operand} (hgd : o.guard = none) (ho : o.op = .makeSlice 42 l c) (hl : a.eval l = .int .i64 (n : Int)) (hc : a.eval c = .int .i64 (n : Int)) (hn : n ≤ 1000000)
    (h : ∀ g, ∀ w1, (Kd.int .i64).C w1 (some ⟨g, 0, none⟩) n (List.replicate n 0) → Below W.heap.size W w1 → wpList Try.prog ops Q rest (a.put o.dst (.slice (some ⟨g, 0, none⟩) n n)) w1) : wpList Try.prog ops Q (o :: rest) a W := by
  obtain ⟨i, hi, hz, hs, hb⟩ := info3m
  refine make_event hgd ho hl hc Try.underlying42 hi hz (by rw [hb]; omega) (by omega) fun g _ w1 hA hB => h g w1 ?_ hB
  rw [hs] at hA
  exact c_zero (by omega) hA
def isL (l : List Int) : List S44 := [⟨14, 0, 0, 0, 0, l, [], []⟩]
/-- An instruction with labels. -/
theorem c_labs {W : World} {g : Nat} {l : List Int} {A : Option Addr} {n c : Nat} (h : W.heap[g]? = some (.cells #[.int .i64 14, .int .i64 0, .int .i64 0, .int .i64 0, .int .i64 0, .slice A n c, .slice none 0 0, .slice none 0 0] 44 (0, 0))) (hn : l.length = n) (hc : n ≤ c) (hl : (Kd.int .i64).C W A n l) : k44.C W (some ⟨g, 0, none⟩) 1 (isL l) := by
  subst hn
  exact c_reps (d := k44) (xs := [(⟨14, 0, 0, 0, 0, l, [], []⟩ : S44)]) (inner := [.int .i64 14, .int .i64 0, .int .i64 0, .int .i64 0, .int .i64 0, .slice A l.length c, .slice none 0 0, .slice none 0 0]) h (reps_one rfl (k44_mk W ⟨14, 0, 0, 0, 0, l, [], []⟩ hc hl (Nat.le_refl _) (c_nil _ W) (Nat.le_refl _) (c_nil _ W))) (by simp)
theorem some_labs {W : World} {A : Option Addr} {l : List Int} (h : k44.C W A 1 (isL l)) : ∃ ad, A = some ad := by
  obtain ⟨ad, A5, c5, A6, c6, A7, c7, e, z0, z5, z6, z7, l5, C5⟩ := at_first h (by decide)
  exact ⟨ad, e⟩
theorem first_labs {W : World} {ad : Addr} {l : List Int} (h : k44.C W (some ad) 1 (isL l)) : ∃ A5 c5, W.cell? ⟨ad.block, ad.off + 5, none⟩ = some (.slice A5 l.length c5) ∧ l.length ≤ c5 ∧ (Kd.int .i64).C W A5 l.length l := by
  obtain ⟨ad', A5, c5, A6, c6, A7, c7, e, z0, z5, z6, z7, l5, C5⟩ := at_first h (by decide)
  injection e with e
  subst e
  exact ⟨A5, c5, z5, l5, C5⟩
theorem isL_wf (l : List Int) : wf64 (isL l) := by simp [isL, wf64_cons, wf64_nil]
theorem mayL_ (l : List Int) : mayB ⟨14, 0, 0, 0, 0, l, [], []⟩ = (decide (1 ≤ l.length ∧ l.length ≤ 1024) && !anyNo l) := by
  unfold mayB mayA mayC mayN mayT mayL mayI
  simp [ofF]
theorem isL_may {l : List Int} (h1 : 1 ≤ l.length) (h2 : l.length ≤ 1024) (hx : ∀ x ∈ l, 0 ≤ x ∧ x < 4294967296) : mayE (isL l) = 0 := by
  have h : mayB ⟨14, 0, 0, 0, 0, l, [], []⟩ = true := by
    rw [mayL_, decide_eq_true ⟨h1, h2⟩, Bool.true_and]
    unfold anyNo
    rw [Bool.not_eq_true', List.any_eq_false]
    intro x hx'
    have := hx x hx'
    unfold u32B
    simp
    omega
  unfold mayE isL
  simp only [pre_cons, pre_nil, List.append_nil, scanE_cons]
  have : stepE (0 + 1) (0, (⟨14, 0, 0, 0, 0, l, [], []⟩ : S44)) = 0 := by
    unfold stepE
    rw [if_neg (fun hh => absurd (show ofF 14 = 2 from hh.1) (by decide)), if_neg]
    rintro (hh | hh)
    · omega
    · rw [h] at hh
      cases hh
  rw [if_pos this]
  rfl
theorem isL_no {l : List Int} (h1 : l.length = 0 ∨ 1024 < l.length) : mayE (isL l) = 1400 := by
  have h : mayB ⟨14, 0, 0, 0, 0, l, [], []⟩ = false := by
    rw [mayL_, decide_eq_false (by omega)]
    rfl
  unfold mayE isL
  rw [pre_cons, scanE_cons]
  have : stepE (0 + 1) (0, (⟨14, 0, 0, 0, 0, l, [], []⟩ : S44)) = 1400 := by
    unfold stepE
    rw [if_neg (fun hh => absurd (show ofF 14 = 2 from hh.1) (by decide)), if_pos (.inr h)]
  rw [if_neg (by rw [this]; decide), this]
theorem putS_sml {is : List S44} (wf : wf64 is) (hm : mayE is = 0) : (putS is).size ≤ 84377601 := by
  have := putL_bound hm wf
  rw [putS_size]
  omega
theorem same_ints {w : World} {A B : Option Addr} {c d n : Nat} {l : List Int} (hn : l.length = n) (hA : (Kd.int .i64).C w A n l) (hc : n ≤ c) (hB : (Kd.int .i64).C w B n l) (hd : n ≤ d) :
    Calls Try.prog 24 #[.slice A n c, .slice B n d] w fun e w' => e = .returned (.bool true) ∧ Below w.heap.size w w' := by
  subst hn
  exact ESame.sameInts_eq hA hc hB hd
def RelLb (W : World) (l : List Int) (v3 v4 : Value) (wr : World) : Prop :=
  ∃ (xs : List Int) (v : Value), v = v3 ∧ v4 = .int .i64 (xs.length : Int) ∧ (xs.length ≤ l.length ∧ xs.length ≤ 200 ∧ ∀ x ∈ xs, 0 ≤ x ∧ x < 4294967296) ∧ (Kd.int .i64).R 3 wr W.heap.size (fun _ => True) v xs ∧ Below W.heap.size W wr
theorem info3n : (Try.prog.info? 3).map (fun i => (i.zero, i.size, i.bytes)) = some (some (.int .i64 0), 1, 8) := by kernel_rfl
set_option maxHeartbeats 4000000 in
set_option maxRecDepth 100000 in
theorem labels14_calls (W : World) {l : List Int} {A : Option Addr} {cp : Nat} (hA : (Kd.int .i64).C W A l.length l) (hc : l.length ≤ cp) : Calls Try.prog 10 #[.slice A l.length cp] W fun e w' => e = .returned (.bool true) ∧ Below W.heap.size W w' := by
  have B := Aside0.mk (Below.refl W.heap.size W)
  have X0 := Aside0.mk hA
  have hmax : l.length ≤ 9223372036854775807 := by have := Kd.C_max hA; unfold maxLen at this; omega
  clear hA hc
  go_enter Try.func10, Try.ntmps10
  go_wp2_with (first
    | (go_at_call 20; (with_reducible refine (awake14_c _).mono ?_); rintro e w1 ⟨rfl, hb⟩; replace B := Aside0.mk (below_step B.out hb); clear hb))
  go_loopw [3, 4] (fun v3 v4 wr => RelLb W l v3 v4 wr) (fun _ v4 _ => l.length - (intOf v4).toNat)
  case atStart => exact ⟨[], _, rfl, rfl, ⟨Nat.zero_le _, by simp, by simp⟩, Kd.R_nil _ _ _ _ _, B.out⟩
  case round =>
    clear B
    obtain ⟨xs, v3, rfl, rfl, hL, hO, hB⟩ := hrel
    have HO := Aside0.mk hO
    have BR := Aside0.mk hB
    have HL := Aside0.mk hL
    have hl0 : xs.length ≤ 200 := hL.2.1
    clear hO hB hL
    by_cases hlt : xs.length < l.length
    · have dl : decide (xs.length < l.length) = true := decide_eq_true hlt
      have dl2 : decide ((xs.length : Int) < (l.length : Int)) = true := decide_eq_true (by omega)
      by_cases h200 : xs.length < 200
      · have dm : decide ((xs.length : Int) < 200) = true := decide_eq_true (by omega)
        have w2 : wrap64 ((xs.length : Int) + 1) = (xs.length : Int) + 1 := by unfold wrap64; omega
        have hi0 : (0 : Int) ≤ (xs.length : Int) := by omega
        obtain ⟨a5, eA, c5e⟩ := Kd.at_int (Kd.C_below X0.out BR.out) (xs.length : Int) hi0 (by omega)
        subst eA
        generalize rd l (xs.length : Int) = x at *
        simp only [Int.toNat_natCast] at c5e
        have hq : Go.bits .and .i64 x 4294967295 = x % 4294967296 := LebMath.and_mask x 32 (by omega) 4294967295 rfl
        have Q0 := Aside0.mk (show 0 ≤ x % 4294967296 ∧ x % 4294967296 < 4294967296 by omega)
        generalize x % 4294967296 = q at *
        go_wp2_with (first
          | ((with_reducible refine gate_builtin (b := .append) (xs := #[.tmp 26, .tmp 32]) rfl ?_); at_builtin; refine Kd.R_append (Kd.int .i64) (w0 := W) W.heap.size rfl (.tmp 26) (.tmp 32) 42 3 (.int .i64 0) 8 rfl Try.underlying42 info3n rfl (by decide) (by decide) v3 xs q [.int .i64 q] (fun _ => True) (fun _ => False) rfl rfl rfl (fun _ hk => hk.elim) (fun _ _ => trivial) HO.out BR.out BR.out.size (by omega) ?_; intro v5 w5 ho hb hg hat; have O2 := Aside0.mk ho; have B2 := Aside0.mk hb; clear ho hb hg hat))
        exact ⟨⟨xs ++ [q], _, rfl, by simp, ⟨by simp; omega, by simp; omega, fun y hy => by
          rcases List.mem_append.1 hy with hy | hy
          · exact HL.out.2.2 y hy
          · rw [List.mem_singleton.1 hy]
            exact Q0.out⟩, O2.out, B2.out⟩, by simp [intOf]; omega⟩
      · have dm : decide ((xs.length : Int) < 200) = false := decide_eq_false (by omega)
        have dl' := xs.length
        clear dl'
        obtain ⟨A3, c3, rfl, l3, hC⟩ := Kd.R_reads HO.out
        have P0 := Aside0.mk hC
        have L3 := Aside0.mk l3
        have B := BR
        have HY := Aside0.mk HL.out.2
        clear HO hC l3 BR HL
        have N3 := Aside0.mk (Eq.refl xs.length)
        generalize hn3 : xs.length = n3 at *
        replace N3 := Aside0.mk hn3
        clear hn3
        have M1 := Aside0.mk (isL_no (l := List.replicate 1025 0) (.inr (by simp)))
        have M2 := Aside0.mk (isL_may (l := List.replicate 1024 0) (by simp) (by simp) (fun x hx => by rw [List.eq_of_mem_replicate hx]; omega))
        by_cases h0 : n3 = 0
        · have z1 : (n3 == 0) = true := by simpa using h0
          have z2 : ((n3 : Int) == 0) = true := by simpa using h0
          have z3 : decide (n3 = 0) = true := decide_eq_true h0
          have z4 : decide ((n3 : Int) = 0) = true := decide_eq_true (by omega)
          have ME := Aside0.mk (isL_no (l := xs) (.inl (by rw [N3.out, h0])))
          clear M1 M2
          go_wp2_with (first
            | ((with_reducible refine gate_dst (N := 37) rfl ?_); refine lit_event ?hg (N := 37) ?hd (cs := #[.int .i64 14, .int .i64 0, .int .i64 0, .int .i64 0, .int .i64 0, .slice A3 n3 c3, .slice none 0 0, .slice none 0 0]) (t := 44) (n := 1) ?hr ?_; (case hd => rfl); (case hg => rfl); (case hr => first | (go_simp; done) | (go_simp; rfl)); intro g11 hgg11 w11 hA hb; replace P0 := Aside0.mk (Kd.C_below P0.out hb); replace B := Aside0.mk (below_step B.out hb); have P := Aside0.mk (c_labs hA N3.out L3.out (Kd.C_below P0.out (Below.refl _ _))); clear hgg11 hA hb)
            | (go_at_call 14; (with_reducible refine (put_er P.out rfl (Nat.le_refl _) ME.out (by decide)).mono ?_); rintro e w12 ⟨rfl, hb⟩; replace P0 := Aside0.mk (Kd.C_below P0.out hb); replace P := Aside0.mk (Kd.C_below P.out hb); replace B := Aside0.mk (below_step B.out hb);  clear hb)
            | (go_at_call 16; (with_reducible refine (num_c _ _).mono ?_); rintro e w' ⟨rfl, rfl⟩))
          all_goals go_ret
          all_goals exact ⟨rfl, B.out⟩
        · have z1 : (n3 == 0) = false := by simpa using h0
          have z2 : ((n3 : Int) == 0) = false := by simpa using h0
          have z3 : decide (n3 = 0) = false := decide_eq_false h0
          have z4 : decide ((n3 : Int) = 0) = false := decide_eq_false (by omega)
          have MA := Aside0.mk (isL_may (l := xs) (by rw [N3.out]; omega) (by rw [N3.out]; have := HY.out.1; omega) HY.out.2)
          have HS := Aside0.mk (show (putS (isL xs)).size ≤ 1152921504606846976 by have := putS_sml (isL_wf xs) MA.out; omega)
          go_wp2_with (first
            | ((with_reducible refine gate_dst (N := 37) rfl ?_); refine lit_event ?hg (N := 37) ?hd (cs := #[.int .i64 14, .int .i64 0, .int .i64 0, .int .i64 0, .int .i64 0, .slice A3 n3 c3, .slice none 0 0, .slice none 0 0]) (t := 44) (n := 1) ?hr ?_; (case hd => rfl); (case hg => rfl); (case hr => first | (go_simp; done) | (go_simp; rfl)); intro g11 hgg11 w11 hA hb; replace P0 := Aside0.mk (Kd.C_below P0.out hb); replace B := Aside0.mk (below_step B.out hb); have P := Aside0.mk (c_labs hA N3.out L3.out (Kd.C_below P0.out (Below.refl _ _))); clear hgg11 hA hb)
            | (go_at_call 14; (with_reducible refine (put_ok P.out rfl (Nat.le_refl _) (isL_wf _) MA.out rfl).mono ?_); rintro e w12 ⟨rfl, hb⟩; replace P0 := Aside0.mk (Kd.C_below P0.out hb); replace P := Aside0.mk (Kd.C_below P.out hb); replace B := Aside0.mk (below_step B.out hb);  clear hb)
            | (go_at_call 21; (with_reducible refine (get_ok (n := 1) (back_all (isL_wf _) MA.out) rfl HS.out _).mono ?_); rintro e w13 ⟨AX, cX, rfl, hC, hc, hb⟩; replace P0 := Aside0.mk (Kd.C_below P0.out hb); replace P := Aside0.mk (Kd.C_below P.out hb); replace B := Aside0.mk (below_step B.out hb); obtain ⟨ad, rfl⟩ := some_labs hC; have Y := Aside0.mk hC; clear hC hc; clear hb)
            | ((with_reducible refine gate_dst (N := 54) rfl ?_); refine make3 (n := 1025) rfl rfl rfl rfl (by decide) ?_; intro gQ w14 hA hb; replace P0 := Aside0.mk (Kd.C_below P0.out hb); replace P := Aside0.mk (Kd.C_below P.out hb); replace Y := Aside0.mk (Kd.C_below Y.out hb); replace B := Aside0.mk (below_step B.out hb); have Q := Aside0.mk hA; clear hA hb)
            | ((with_reducible refine gate_dst (N := 56) rfl ?_); refine lit_event ?hg (N := 56) ?hd (cs := #[.int .i64 14, .int .i64 0, .int .i64 0, .int .i64 0, .int .i64 0, .slice (some ⟨gQ, 0, none⟩) 1025 1025, .slice none 0 0, .slice none 0 0]) (t := 44) (n := 1) ?hr ?_; (case hd => rfl); (case hg => rfl); (case hr => first | (go_simp; done) | (go_simp; rfl)); intro g15 hgg15 w15 hA hb; replace P0 := Aside0.mk (Kd.C_below P0.out hb); replace P := Aside0.mk (Kd.C_below P.out hb); replace Y := Aside0.mk (Kd.C_below Y.out hb); replace Q := Aside0.mk (Kd.C_below Q.out hb); replace B := Aside0.mk (below_step B.out hb); have R := Aside0.mk (c_labs hA (l := List.replicate 1025 0) (List.length_replicate ..) (Nat.le_refl _) Q.out); clear hgg15 hA hb)
            | (go_at_call 14; (with_reducible refine (put_er R.out rfl (Nat.le_refl _) M1.out (by decide)).mono ?_); rintro e w16 ⟨rfl, hb⟩; replace P0 := Aside0.mk (Kd.C_below P0.out hb); replace P := Aside0.mk (Kd.C_below P.out hb); replace Y := Aside0.mk (Kd.C_below Y.out hb); replace Q := Aside0.mk (Kd.C_below Q.out hb); replace R := Aside0.mk (Kd.C_below R.out hb); replace B := Aside0.mk (below_step B.out hb);  clear hb)
            | ((with_reducible refine gate_dst (N := 61) rfl ?_); refine make3 (n := 1024) rfl rfl rfl rfl (by decide) ?_; intro gU w17 hA hb; replace P0 := Aside0.mk (Kd.C_below P0.out hb); replace P := Aside0.mk (Kd.C_below P.out hb); replace Y := Aside0.mk (Kd.C_below Y.out hb); replace Q := Aside0.mk (Kd.C_below Q.out hb); replace R := Aside0.mk (Kd.C_below R.out hb); replace B := Aside0.mk (below_step B.out hb); have U := Aside0.mk hA; clear hA hb)
            | ((with_reducible refine gate_dst (N := 63) rfl ?_); refine lit_event ?hg (N := 63) ?hd (cs := #[.int .i64 14, .int .i64 0, .int .i64 0, .int .i64 0, .int .i64 0, .slice (some ⟨gU, 0, none⟩) 1024 1024, .slice none 0 0, .slice none 0 0]) (t := 44) (n := 1) ?hr ?_; (case hd => rfl); (case hg => rfl); (case hr => first | (go_simp; done) | (go_simp; rfl)); intro g18 hgg18 w18 hA hb; replace P0 := Aside0.mk (Kd.C_below P0.out hb); replace P := Aside0.mk (Kd.C_below P.out hb); replace Y := Aside0.mk (Kd.C_below Y.out hb); replace Q := Aside0.mk (Kd.C_below Q.out hb); replace R := Aside0.mk (Kd.C_below R.out hb); replace U := Aside0.mk (Kd.C_below U.out hb); replace B := Aside0.mk (below_step B.out hb); have V := Aside0.mk (c_labs hA (l := List.replicate 1024 0) (List.length_replicate ..) (Nat.le_refl _) U.out); clear hgg18 hA hb)
            | (go_at_call 14; (with_reducible refine (put_ok V.out rfl (Nat.le_refl _) (isL_wf _) M2.out rfl).mono ?_); rintro e w19 ⟨rfl, hb⟩; replace P0 := Aside0.mk (Kd.C_below P0.out hb); replace P := Aside0.mk (Kd.C_below P.out hb); replace Y := Aside0.mk (Kd.C_below Y.out hb); replace Q := Aside0.mk (Kd.C_below Q.out hb); replace R := Aside0.mk (Kd.C_below R.out hb); replace U := Aside0.mk (Kd.C_below U.out hb); replace V := Aside0.mk (Kd.C_below V.out hb); replace B := Aside0.mk (below_step B.out hb);  clear hb; obtain ⟨A5, c5, z5, l5, C5⟩ := first_labs Y.out; rw [N3.out] at z5 l5 C5; have X := Aside0.mk C5; have LX := Aside0.mk l5; clear l5 C5)
            | (go_at_call 16; (with_reducible refine (num_c _ _).mono ?_); rintro e w' ⟨rfl, rfl⟩)
            | (go_at_call 24; (with_reducible refine (same_ints N3.out X.out LX.out P0.out L3.out).mono ?_); rintro e w20 ⟨rfl, hb⟩; replace P0 := Aside0.mk (Kd.C_below P0.out hb); replace P := Aside0.mk (Kd.C_below P.out hb); replace Y := Aside0.mk (Kd.C_below Y.out hb); replace Q := Aside0.mk (Kd.C_below Q.out hb); replace R := Aside0.mk (Kd.C_below R.out hb); replace U := Aside0.mk (Kd.C_below U.out hb); replace V := Aside0.mk (Kd.C_below V.out hb); replace B := Aside0.mk (below_step B.out hb);  clear hb))
          all_goals go_ret
          all_goals exact ⟨rfl, B.out⟩
    · have dl : decide (xs.length < l.length) = false := decide_eq_false hlt
      have dl2 : decide ((xs.length : Int) < (l.length : Int)) = false := decide_eq_false (by omega)
      have dl' := xs.length
      clear dl'
      obtain ⟨A3, c3, rfl, l3, hC⟩ := Kd.R_reads HO.out
      have P0 := Aside0.mk hC
      have L3 := Aside0.mk l3
      have B := BR
      have HY := Aside0.mk HL.out.2
      clear HO hC l3 BR HL
      have N3 := Aside0.mk (Eq.refl xs.length)
      generalize hn3 : xs.length = n3 at *
      replace N3 := Aside0.mk hn3
      clear hn3
      have M1 := Aside0.mk (isL_no (l := List.replicate 1025 0) (.inr (by simp)))
      have M2 := Aside0.mk (isL_may (l := List.replicate 1024 0) (by simp) (by simp) (fun x hx => by rw [List.eq_of_mem_replicate hx]; omega))
      by_cases h0 : n3 = 0
      · have z1 : (n3 == 0) = true := by simpa using h0
        have z2 : ((n3 : Int) == 0) = true := by simpa using h0
        have z3 : decide (n3 = 0) = true := decide_eq_true h0
        have z4 : decide ((n3 : Int) = 0) = true := decide_eq_true (by omega)
        have ME := Aside0.mk (isL_no (l := xs) (.inl (by rw [N3.out, h0])))
        clear M1 M2
        go_wp2_with (first
          | ((with_reducible refine gate_dst (N := 37) rfl ?_); refine lit_event ?hg (N := 37) ?hd (cs := #[.int .i64 14, .int .i64 0, .int .i64 0, .int .i64 0, .int .i64 0, .slice A3 n3 c3, .slice none 0 0, .slice none 0 0]) (t := 44) (n := 1) ?hr ?_; (case hd => rfl); (case hg => rfl); (case hr => first | (go_simp; done) | (go_simp; rfl)); intro g11 hgg11 w11 hA hb; replace P0 := Aside0.mk (Kd.C_below P0.out hb); replace B := Aside0.mk (below_step B.out hb); have P := Aside0.mk (c_labs hA N3.out L3.out (Kd.C_below P0.out (Below.refl _ _))); clear hgg11 hA hb)
          | (go_at_call 14; (with_reducible refine (put_er P.out rfl (Nat.le_refl _) ME.out (by decide)).mono ?_); rintro e w12 ⟨rfl, hb⟩; replace P0 := Aside0.mk (Kd.C_below P0.out hb); replace P := Aside0.mk (Kd.C_below P.out hb); replace B := Aside0.mk (below_step B.out hb);  clear hb)
          | (go_at_call 16; (with_reducible refine (num_c _ _).mono ?_); rintro e w' ⟨rfl, rfl⟩))
        all_goals go_ret
        all_goals exact ⟨rfl, B.out⟩
      · have z1 : (n3 == 0) = false := by simpa using h0
        have z2 : ((n3 : Int) == 0) = false := by simpa using h0
        have z3 : decide (n3 = 0) = false := decide_eq_false h0
        have z4 : decide ((n3 : Int) = 0) = false := decide_eq_false (by omega)
        have MA := Aside0.mk (isL_may (l := xs) (by rw [N3.out]; omega) (by rw [N3.out]; have := HY.out.1; omega) HY.out.2)
        have HS := Aside0.mk (show (putS (isL xs)).size ≤ 1152921504606846976 by have := putS_sml (isL_wf xs) MA.out; omega)
        go_wp2_with (first
          | ((with_reducible refine gate_dst (N := 37) rfl ?_); refine lit_event ?hg (N := 37) ?hd (cs := #[.int .i64 14, .int .i64 0, .int .i64 0, .int .i64 0, .int .i64 0, .slice A3 n3 c3, .slice none 0 0, .slice none 0 0]) (t := 44) (n := 1) ?hr ?_; (case hd => rfl); (case hg => rfl); (case hr => first | (go_simp; done) | (go_simp; rfl)); intro g11 hgg11 w11 hA hb; replace P0 := Aside0.mk (Kd.C_below P0.out hb); replace B := Aside0.mk (below_step B.out hb); have P := Aside0.mk (c_labs hA N3.out L3.out (Kd.C_below P0.out (Below.refl _ _))); clear hgg11 hA hb)
          | (go_at_call 14; (with_reducible refine (put_ok P.out rfl (Nat.le_refl _) (isL_wf _) MA.out rfl).mono ?_); rintro e w12 ⟨rfl, hb⟩; replace P0 := Aside0.mk (Kd.C_below P0.out hb); replace P := Aside0.mk (Kd.C_below P.out hb); replace B := Aside0.mk (below_step B.out hb);  clear hb)
          | (go_at_call 21; (with_reducible refine (get_ok (n := 1) (back_all (isL_wf _) MA.out) rfl HS.out _).mono ?_); rintro e w13 ⟨AX, cX, rfl, hC, hc, hb⟩; replace P0 := Aside0.mk (Kd.C_below P0.out hb); replace P := Aside0.mk (Kd.C_below P.out hb); replace B := Aside0.mk (below_step B.out hb); obtain ⟨ad, rfl⟩ := some_labs hC; have Y := Aside0.mk hC; clear hC hc; clear hb)
          | ((with_reducible refine gate_dst (N := 54) rfl ?_); refine make3 (n := 1025) rfl rfl rfl rfl (by decide) ?_; intro gQ w14 hA hb; replace P0 := Aside0.mk (Kd.C_below P0.out hb); replace P := Aside0.mk (Kd.C_below P.out hb); replace Y := Aside0.mk (Kd.C_below Y.out hb); replace B := Aside0.mk (below_step B.out hb); have Q := Aside0.mk hA; clear hA hb)
          | ((with_reducible refine gate_dst (N := 56) rfl ?_); refine lit_event ?hg (N := 56) ?hd (cs := #[.int .i64 14, .int .i64 0, .int .i64 0, .int .i64 0, .int .i64 0, .slice (some ⟨gQ, 0, none⟩) 1025 1025, .slice none 0 0, .slice none 0 0]) (t := 44) (n := 1) ?hr ?_; (case hd => rfl); (case hg => rfl); (case hr => first | (go_simp; done) | (go_simp; rfl)); intro g15 hgg15 w15 hA hb; replace P0 := Aside0.mk (Kd.C_below P0.out hb); replace P := Aside0.mk (Kd.C_below P.out hb); replace Y := Aside0.mk (Kd.C_below Y.out hb); replace Q := Aside0.mk (Kd.C_below Q.out hb); replace B := Aside0.mk (below_step B.out hb); have R := Aside0.mk (c_labs hA (l := List.replicate 1025 0) (List.length_replicate ..) (Nat.le_refl _) Q.out); clear hgg15 hA hb)
          | (go_at_call 14; (with_reducible refine (put_er R.out rfl (Nat.le_refl _) M1.out (by decide)).mono ?_); rintro e w16 ⟨rfl, hb⟩; replace P0 := Aside0.mk (Kd.C_below P0.out hb); replace P := Aside0.mk (Kd.C_below P.out hb); replace Y := Aside0.mk (Kd.C_below Y.out hb); replace Q := Aside0.mk (Kd.C_below Q.out hb); replace R := Aside0.mk (Kd.C_below R.out hb); replace B := Aside0.mk (below_step B.out hb);  clear hb)
          | ((with_reducible refine gate_dst (N := 61) rfl ?_); refine make3 (n := 1024) rfl rfl rfl rfl (by decide) ?_; intro gU w17 hA hb; replace P0 := Aside0.mk (Kd.C_below P0.out hb); replace P := Aside0.mk (Kd.C_below P.out hb); replace Y := Aside0.mk (Kd.C_below Y.out hb); replace Q := Aside0.mk (Kd.C_below Q.out hb); replace R := Aside0.mk (Kd.C_below R.out hb); replace B := Aside0.mk (below_step B.out hb); have U := Aside0.mk hA; clear hA hb)
          | ((with_reducible refine gate_dst (N := 63) rfl ?_); refine lit_event ?hg (N := 63) ?hd (cs := #[.int .i64 14, .int .i64 0, .int .i64 0, .int .i64 0, .int .i64 0, .slice (some ⟨gU, 0, none⟩) 1024 1024, .slice none 0 0, .slice none 0 0]) (t := 44) (n := 1) ?hr ?_; (case hd => rfl); (case hg => rfl); (case hr => first | (go_simp; done) | (go_simp; rfl)); intro g18 hgg18 w18 hA hb; replace P0 := Aside0.mk (Kd.C_below P0.out hb); replace P := Aside0.mk (Kd.C_below P.out hb); replace Y := Aside0.mk (Kd.C_below Y.out hb); replace Q := Aside0.mk (Kd.C_below Q.out hb); replace R := Aside0.mk (Kd.C_below R.out hb); replace U := Aside0.mk (Kd.C_below U.out hb); replace B := Aside0.mk (below_step B.out hb); have V := Aside0.mk (c_labs hA (l := List.replicate 1024 0) (List.length_replicate ..) (Nat.le_refl _) U.out); clear hgg18 hA hb)
          | (go_at_call 14; (with_reducible refine (put_ok V.out rfl (Nat.le_refl _) (isL_wf _) M2.out rfl).mono ?_); rintro e w19 ⟨rfl, hb⟩; replace P0 := Aside0.mk (Kd.C_below P0.out hb); replace P := Aside0.mk (Kd.C_below P.out hb); replace Y := Aside0.mk (Kd.C_below Y.out hb); replace Q := Aside0.mk (Kd.C_below Q.out hb); replace R := Aside0.mk (Kd.C_below R.out hb); replace U := Aside0.mk (Kd.C_below U.out hb); replace V := Aside0.mk (Kd.C_below V.out hb); replace B := Aside0.mk (below_step B.out hb);  clear hb; obtain ⟨A5, c5, z5, l5, C5⟩ := first_labs Y.out; rw [N3.out] at z5 l5 C5; have X := Aside0.mk C5; have LX := Aside0.mk l5; clear l5 C5)
          | (go_at_call 16; (with_reducible refine (num_c _ _).mono ?_); rintro e w' ⟨rfl, rfl⟩)
          | (go_at_call 24; (with_reducible refine (same_ints N3.out X.out LX.out P0.out L3.out).mono ?_); rintro e w20 ⟨rfl, hb⟩; replace P0 := Aside0.mk (Kd.C_below P0.out hb); replace P := Aside0.mk (Kd.C_below P.out hb); replace Y := Aside0.mk (Kd.C_below Y.out hb); replace Q := Aside0.mk (Kd.C_below Q.out hb); replace R := Aside0.mk (Kd.C_below R.out hb); replace U := Aside0.mk (Kd.C_below U.out hb); replace V := Aside0.mk (Kd.C_below V.out hb); replace B := Aside0.mk (below_step B.out hb);  clear hb))
        all_goals go_ret
        all_goals exact ⟨rfl, B.out⟩

theorem labels_row {w : World} {ks : List Int} {ck : List Value} (h0 : (Kd.slice 3 (Kd.int .i64)).K w ks ck) : Calls Try.prog 10 #[ck.headD undef] w fun e w' => e = .returned (.bool true) ∧ Below w.heap.size w w' := by
  obtain ⟨A, c, rfl, hc, hK⟩ := h0
  exact labels14_calls w hK hc
end Go.Proofs.Ytbekfmeaeaghpaa.EInstr
