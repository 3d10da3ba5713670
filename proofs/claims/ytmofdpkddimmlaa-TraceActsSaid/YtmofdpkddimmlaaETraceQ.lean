/-
  The reference host as its holder sees it; sameHeard.
-/
import Derived.Test.YtmofdpkddimmlaaETraceCallR2
namespace Go.Proofs.Ytmofdpkddimmlaa.ETrace
open Go Go.RowKit Go.Proofs.Ytmofdpkddimmlaa.F Go.Proofs.Ytmofdpkddimmlaa.PureVals Go.Proofs.YtmofdpkddimmlaaW.Hand Go.Proofs.YtmofdpkddimmlaaW.PrintWords Go.Proofs.YtmofdpkddimmlaaW.PrintLast Go.Proofs.YtmofdpkddimmlaaW.PrintMore
set_option linter.unusedVariables false
set_option linter.unusedSimpArgs false
theorem qcall_none {w0 w : World} {g : Nat} {P : Nat → Prop} {hs : List Hd} {f : Int} {Ap Ar B : Option Addr} {np cp cr c : Nat} {rs : List Int} {args : List S56} (h : Qr w0 w g P [] hs) (hf : 0 ≤ f) (hlen : hs.length ≤ 1000) (hr : Kd.F (Kd.int .i64) w P Ar rs.length rs) (hcr : rs.length ≤ cr) (ha : k56.C w B args.length args) (has : args.length * 16 ≤ 140737488351232) :
    Calls Try.prog 18 #[.pointer (some ⟨g, 0, none⟩), .int .i64 f, .agg #[.slice Ap np cp, .slice Ar rs.length cr], .slice B args.length c] w fun e w' => e = .returned (.tuple #[.slice none 0 0, .int .i64 1101]) ∧ Qr w0 w' g P [] (hs ++ [⟨f, args⟩]) ∧ Kp P w w' := by
  have hr' : Kd.F (Kd.int .i64) w (fun k => ¬ (¬ P k)) Ar rs.length rs := Kd.F_mono hr (fun k hk hn => hn hk)
  exact (callR_none (an := []) (vs := []) (Ap := Ap) (np := np) (cp := cp) h.1 hf hlen hr' hcr ha has).mono fun e w' hh => ⟨hh.1, h.of_fr hh.2.1 hh.2.2, h.kp hh.2.2⟩
theorem qcall_wrong {w0 w : World} {g : Nat} {P : Nat → Prop} {an : List (List S56)} {hs : List Hd} {vs : List S56} {f : Int} {Ap Ar B : Option Addr} {np cp cr c : Nat} {rs : List Int} {args : List S56} (h : Qr w0 w g P (vs :: an) hs) (hf : 0 ≤ f) (hlen : hs.length ≤ 1000) (hr : Kd.F (Kd.int .i64) w P Ar rs.length rs) (hcr : rs.length ≤ cr) (ha : k56.C w B args.length args) (has : args.length * 16 ≤ 140737488351232) (hal : an.length * 24 ≤ 140737488351232) (hfit : fitV rs vs = false) :
    Calls Try.prog 18 #[.pointer (some ⟨g, 0, none⟩), .int .i64 f, .agg #[.slice Ap np cp, .slice Ar rs.length cr], .slice B args.length c] w fun e w' => e = .returned (.tuple #[.slice none 0 0, .int .i64 1102]) ∧ Qr w0 w' g P an (hs ++ [⟨f, args⟩]) ∧ Kp P w w' := by
  have hr' : Kd.F (Kd.int .i64) w (fun k => ¬ (¬ P k)) Ar rs.length rs := Kd.F_mono hr (fun k hk hn => hn hk)
  exact (callR_wrong (Ap := Ap) (np := np) (cp := cp) h.1 hf hlen hr' hcr ha has hal hfit).mono fun e w' hh => ⟨hh.1, h.of_fr hh.2.1 hh.2.2, h.kp hh.2.2⟩
theorem qcall_ok {w0 w : World} {g : Nat} {P : Nat → Prop} {an : List (List S56)} {hs : List Hd} {vs : List S56} {f : Int} {Ap Ar B : Option Addr} {np cp cr c : Nat} {rs : List Int} {args : List S56} (h : Qr w0 w g P (vs :: an) hs) (hf : 0 ≤ f) (hlen : hs.length ≤ 1000) (hr : Kd.F (Kd.int .i64) w P Ar rs.length rs) (hcr : rs.length ≤ cr) (ha : k56.C w B args.length args) (has : args.length * 16 ≤ 140737488351232) (hal : an.length * 24 ≤ 140737488351232) (hfit : fitV rs vs = true) (hvs : vs.length * 16 ≤ 140737488351232) :
    Calls Try.prog 18 #[.pointer (some ⟨g, 0, none⟩), .int .i64 f, .agg #[.slice Ap np cp, .slice Ar rs.length cr], .slice B args.length c] w fun e w' => ∃ A' c' m, e = .returned (.tuple #[.slice A' vs.length c', .int .i64 0]) ∧ Qr w0 w' g (fun k => P k ∨ (m ≤ k ∧ k < w'.heap.size)) an (hs ++ [⟨f, args⟩]) ∧ w.heap.size ≤ m ∧ k56.R 56 w' m (fun k => m ≤ k ∧ k < w'.heap.size) (.slice A' vs.length c') vs ∧ Kp P w w' := by
  have hr' : Kd.F (Kd.int .i64) w (fun k => ¬ (¬ P k)) Ar rs.length rs := Kd.F_mono hr (fun k hk hn => hn hk)
  refine (callR_ok (Ap := Ap) (np := np) (cp := cp) h.1 hf hlen hr' hcr ha has hal hfit hvs).mono ?_
  rintro e w' ⟨A', c', m, rfl, hm, h1, hR, hF⟩
  have hq := h.of_fr (h1.mono (fun k hk => hk.1)) hF
  refine ⟨A', c', m, rfl, ⟨h1.mono (fun k hk hn => hn.elim (fun hp => hk.1.elim (fun hn => hn hp) (fun hl => by have := h.2.1 k hp; omega)) (fun hn => by have := hk.2; omega)), fun k hk => hk.elim (hq.2.1 k) (fun hk => hk.2), fun k hk => .inl (hq.2.2.1 k hk), hq.2.2.2⟩, hm, Kd.R_mono (Kd.R_bound hR) (fun k hk => ⟨hk.1, hk.2.2.1⟩), h.kp hF⟩

theorem same_n {W : World} {A B : Option Addr} {a : List S56} {c d : Nat} (h1 : k56.C W A a.length a) (hc : a.length ≤ c) (h2 : k56.C W B a.length a) (hd : a.length ≤ d) : Calls Try.prog 19 #[.slice A a.length c, .slice B a.length d] W fun e w' => e = .returned (.bool true) ∧ Below W.heap.size W w' :=
  (same_calls h1 hc h2 hd).mono fun e w' hh => ⟨by rw [hh.1]; simp, hh.2⟩
def RelSH (w : World) (n k : Nat) (v5 : Value) (wr : World) : Prop := ∃ i : Nat, i + k = n ∧ v5 = .int .i64 i ∧ Below w.heap.size w wr
set_option maxHeartbeats 4000000 in
set_option maxRecDepth 100000 in
theorem sameHeard_calls {w : World} {n b1 b2 c1 c2 : Nat} {ok1 ok2 : Nat → Prop} {A B : Option Addr} {hs : List Hd} (hn : hs.length = n) (h1 : Kd.N k52 52 w b1 ok1 (.slice A n c1) hs) (h2 : Kd.N k52 52 w b2 ok2 (.slice B n c2) hs) (hlen : n ≤ 1000) :
    Calls Try.prog 23 #[.slice A n c1, .slice B n c2] w fun e w' => e = .returned (.bool true) ∧ Below w.heap.size w w' := by
  have hu46 := Try.underlying46
  have hu52 := Try.underlying52
  have hu24 := Try.underlying24
  have H1 := Aside0.mk h1
  have H2 := Aside0.mk h2
  have HN := Aside0.mk hn
  have hm : n ≤ 9223372036854775807 := by omega
  clear h1 h2 hn
  go_enter Try.func23, Try.ntmps23
  go_wp2
  go_loopg [5] n (fun k v5 wr => RelSH w n k v5 wr)
  case atStart => exact ⟨0, by omega, rfl, by first | exact Below.refl _ _ | exact below_drew (Below.refl _ _)⟩
  case round =>
    obtain ⟨i, hi, rfl, hb⟩ := hrel
    have I3 := Aside0.mk hi
    have HB := Aside0.mk hb
    clear hi hb
    by_cases hlt : i < n
    · have dl : decide (i < n) = true := by simpa using hlt
      have HLT := Aside0.mk hlt
      obtain ⟨ga, P1, d1, rfl, e1, e2, l1, F1⟩ := heardN_at HN.out H1.out i hlt
      obtain ⟨gb, P2, d2, rfl, e3, e4, l2, F2⟩ := heardN_at HN.out H2.out i hlt
      have z1 : wr.cell? ⟨ga, i * 2, none⟩ = some (.int .i64 (rdH hs i).fn) := pw_cell_below HB.out e1
      have z2 : wr.cell? ⟨ga, i * 2 + 1, none⟩ = some (.slice P1 (rdH hs i).args.length d1) := pw_cell_below HB.out e2
      have z3 : wr.cell? ⟨gb, i * 2, none⟩ = some (.int .i64 (rdH hs i).fn) := pw_cell_below HB.out e3
      have z4 : wr.cell? ⟨gb, i * 2 + 1, none⟩ = some (.slice P2 (rdH hs i).args.length d2) := pw_cell_below HB.out e4
      have K1 := Aside0.mk (Kd.F_now F1)
      have K2 := Aside0.mk (Kd.F_now F2)
      have L1 := Aside0.mk l1
      have L2 := Aside0.mk l2
      have dn : ((rdH hs i).fn != (rdH hs i).fn) = false := by simp
      clear e1 e2 e3 e4 l1 l2 F1 F2
      go_wp2_with fail
      refine start_ (n := 25) (S := fun w' => w'.cell? ⟨ga, i * 2, none⟩ = some (.int .i64 (rdH hs i).fn) ∧ w'.cell? ⟨ga, i * 2 + 1, none⟩ = some (.slice P1 (rdH hs i).args.length d1) ∧ w'.cell? ⟨gb, i * 2, none⟩ = some (.int .i64 (rdH hs i).fn) ∧ w'.cell? ⟨gb, i * 2 + 1, none⟩ = some (.slice P2 (rdH hs i).args.length d2)) (ds := []) #[false, false, false, false, false, false, false, false, false, false, false, false, false, false, false, false, false, false, false, false, false, false, false, false, false] (by kernel_rfl) rfl rfl ⟨z1, z2, z3, z4⟩ (fun hHeld => ?_)
      refine pure_ (i := 0) (N := some 17) (v := ?_) (a' := ?_) #[true, false, false, false, false, false, false, false, false, false, false, false, false, false, false, false, false, false, false, false, false, false, false, false, false] rfl rfl (by kernel_rfl) (fun _ _ _ h => h) (Or.inl ⟨by rfl, ?_⟩) ?_ ?_
      rotate_left
      · intro w'
        go_simp
        with_reducible rfl
      rotate_left
      · simp only [Act.put, List.setIfInBounds_toArray, List.set_cons_zero, List.set_cons_succ, i64_w, i32_w]
        rfl
      refine pure_ (i := 1) (N := some 18) (v := ?_) (a' := ?_) #[true, true, false, false, false, false, false, false, false, false, false, false, false, false, false, false, false, false, false, false, false, false, false, false, false] rfl rfl (by kernel_rfl) (fun _ _ _ h => h) (Or.inl ⟨by rfl, ?_⟩) ?_ ?_
      rotate_left
      · intro w'
        go_simp
        with_reducible rfl
      rotate_left
      · simp only [Act.put, List.setIfInBounds_toArray, List.set_cons_zero, List.set_cons_succ, i64_w, i32_w]
        rfl
      refine pure_ (i := 2) (N := some 19) (v := ?_) (a' := ?_) #[true, true, true, false, false, false, false, false, false, false, false, false, false, false, false, false, false, false, false, false, false, false, false, false, false] rfl rfl (by kernel_rfl) (fun _ _ _ h => h) (Or.inl ⟨by rfl, ?_⟩) ?_ ?_
      rotate_left
      · intro w'
        go_simp
        with_reducible rfl
      rotate_left
      · simp only [Act.put, List.setIfInBounds_toArray, List.set_cons_zero, List.set_cons_succ, i64_w, i32_w]
        rfl
      refine pure_ (i := 3) (N := some 20) (v := ?_) (a' := ?_) #[true, true, true, true, false, false, false, false, false, false, false, false, false, false, false, false, false, false, false, false, false, false, false, false, false] rfl rfl (by kernel_rfl) (fun _ _ _ h => h) (Or.inl ⟨by rfl, ?_⟩) ?_ ?_
      rotate_left
      · intro w'
        go_simp
        with_reducible rfl
      rotate_left
      · simp only [Act.put, List.setIfInBounds_toArray, List.set_cons_zero, List.set_cons_succ, i64_w, i32_w]
        rfl
      refine pure_ (i := 5) (N := some 22) (v := ?_) (a' := ?_) #[true, true, true, true, false, true, false, false, false, false, false, false, false, false, false, false, false, false, false, false, false, false, false, false, false] rfl rfl (by kernel_rfl) (fun _ _ _ h => h) (Or.inl ⟨by rfl, ?_⟩) ?_ ?_
      rotate_left
      · intro w'
        go_simp
        with_reducible rfl
      rotate_left
      · simp only [Act.put, List.setIfInBounds_toArray, List.set_cons_zero, List.set_cons_succ, i64_w, i32_w]
        rfl
      refine pure_ (i := 6) (N := some 23) (v := ?_) (a' := ?_) #[true, true, true, true, false, true, true, false, false, false, false, false, false, false, false, false, false, false, false, false, false, false, false, false, false] rfl rfl (by kernel_rfl) (fun _ _ _ h => h) (Or.inl ⟨by rfl, ?_⟩) ?_ ?_
      rotate_left
      · intro w'
        go_simp
        with_reducible rfl
      rotate_left
      · simp only [Act.put, List.setIfInBounds_toArray, List.set_cons_zero, List.set_cons_succ, i64_w, i32_w]
        rfl
      refine pure_ (i := 7) (N := some 24) (v := ?_) (a' := ?_) #[true, true, true, true, false, true, true, true, false, false, false, false, false, false, false, false, false, false, false, false, false, false, false, false, false] rfl rfl (by kernel_rfl) (fun _ _ _ h => h) (Or.inl ⟨by rfl, ?_⟩) ?_ ?_
      rotate_left
      · intro w'
        go_simp
        with_reducible rfl
      rotate_left
      · simp only [Act.put, List.setIfInBounds_toArray, List.set_cons_zero, List.set_cons_succ, i64_w, i32_w]
        rfl
      refine pure_ (i := 8) (N := some 25) (v := ?_) (a' := ?_) #[true, true, true, true, false, true, true, true, true, false, false, false, false, false, false, false, false, false, false, false, false, false, false, false, false] rfl rfl (by kernel_rfl) (fun _ _ _ h => h) (Or.inl ⟨by rfl, ?_⟩) ?_ ?_
      rotate_left
      · intro w'
        go_simp
        with_reducible rfl
      rotate_left
      · simp only [Act.put, List.setIfInBounds_toArray, List.set_cons_zero, List.set_cons_succ, i64_w, i32_w]
        rfl
      refine take_ (i := 4) (N := some 21) (v := ?_) (a' := ?_) #[true, true, true, true, true, true, true, true, true, false, false, false, false, false, false, false, false, false, false, false, false, false, false, false, false] rfl rfl (by kernel_rfl) (fun _ _ _ h => h) (Or.inl ⟨by rfl, ?_⟩) hHeld ?_ ?_
      rotate_left
      · rintro w' ⟨s0, s1, s2, s3⟩
        go_simp
        with_reducible rfl
      rotate_left
      · simp only [Act.put, List.setIfInBounds_toArray, List.set_cons_zero, List.set_cons_succ, i64_w, i32_w]
        rfl
      refine take_ (i := 9) (N := some 26) (v := ?_) (a' := ?_) #[true, true, true, true, true, true, true, true, true, true, false, false, false, false, false, false, false, false, false, false, false, false, false, false, false] rfl rfl (by kernel_rfl) (fun _ _ _ h => h) (Or.inl ⟨by rfl, ?_⟩) hHeld ?_ ?_
      rotate_left
      · rintro w' ⟨s0, s1, s2, s3⟩
        go_simp
        with_reducible rfl
      rotate_left
      · simp only [Act.put, List.setIfInBounds_toArray, List.set_cons_zero, List.set_cons_succ, i64_w, i32_w]
        rfl
      refine pure_ (i := 10) (N := some 27) (v := ?_) (a' := ?_) #[true, true, true, true, true, true, true, true, true, true, true, false, false, false, false, false, false, false, false, false, false, false, false, false, false] rfl rfl (by kernel_rfl) (fun _ _ _ h => h) (Or.inl ⟨by rfl, ?_⟩) ?_ ?_
      rotate_left
      · intro w'
        go_simp
        with_reducible rfl
      rotate_left
      · simp only [Act.put, List.setIfInBounds_toArray, List.set_cons_zero, List.set_cons_succ, i64_w, i32_w]
        rfl
      refine pure_ (i := 11) (N := some 28) (v := ?_) (a' := ?_) #[true, true, true, true, true, true, true, true, true, true, true, true, false, false, false, false, false, false, false, false, false, false, false, false, false] rfl rfl (by kernel_rfl) (fun _ _ _ h => h) (Or.inl ⟨by rfl, ?_⟩) ?_ ?_
      rotate_left
      · intro w'
        go_simp
        with_reducible rfl
      rotate_left
      · simp only [Act.put, List.setIfInBounds_toArray, List.set_cons_zero, List.set_cons_succ, i64_w, i32_w]
        rfl
      refine pure_ (i := 12) (N := some 29) (v := ?_) (a' := ?_) #[true, true, true, true, true, true, true, true, true, true, true, true, true, false, false, false, false, false, false, false, false, false, false, false, false] rfl rfl (by kernel_rfl) (fun _ _ _ h => h) (Or.inl ⟨by rfl, ?_⟩) ?_ ?_
      rotate_left
      · intro w'
        go_simp
        with_reducible rfl
      rotate_left
      · simp only [Act.put, List.setIfInBounds_toArray, List.set_cons_zero, List.set_cons_succ, i64_w, i32_w]
        rfl
      refine pure_ (i := 13) (N := some 30) (v := ?_) (a' := ?_) #[true, true, true, true, true, true, true, true, true, true, true, true, true, true, false, false, false, false, false, false, false, false, false, false, false] rfl rfl (by kernel_rfl) (fun _ _ _ h => h) (Or.inl ⟨by rfl, ?_⟩) ?_ ?_
      rotate_left
      · intro w'
        go_simp
        with_reducible rfl
      rotate_left
      · simp only [Act.put, List.setIfInBounds_toArray, List.set_cons_zero, List.set_cons_succ, i64_w, i32_w]
        rfl
      refine pure_ (i := 14) (N := some 31) (v := ?_) (a' := ?_) #[true, true, true, true, true, true, true, true, true, true, true, true, true, true, true, false, false, false, false, false, false, false, false, false, false] rfl rfl (by kernel_rfl) (fun _ _ _ h => h) (Or.inl ⟨by rfl, ?_⟩) ?_ ?_
      rotate_left
      · intro w'
        go_simp
        with_reducible rfl
      rotate_left
      · simp only [Act.put, List.setIfInBounds_toArray, List.set_cons_zero, List.set_cons_succ, i64_w, i32_w]
        rfl
      refine pure_ (i := 15) (N := some 32) (v := ?_) (a' := ?_) #[true, true, true, true, true, true, true, true, true, true, true, true, true, true, true, true, false, false, false, false, false, false, false, false, false] rfl rfl (by kernel_rfl) (fun _ _ _ h => h) (Or.inl ⟨by rfl, ?_⟩) ?_ ?_
      rotate_left
      · intro w'
        go_simp
        with_reducible rfl
      rotate_left
      · simp only [Act.put, List.setIfInBounds_toArray, List.set_cons_zero, List.set_cons_succ, i64_w, i32_w]
        rfl
      refine pure_ (i := 17) (N := some 34) (v := ?_) (a' := ?_) #[true, true, true, true, true, true, true, true, true, true, true, true, true, true, true, true, false, true, false, false, false, false, false, false, false] rfl rfl (by kernel_rfl) (fun _ _ _ h => h) (Or.inl ⟨by rfl, ?_⟩) ?_ ?_
      rotate_left
      · intro w'
        go_simp
        with_reducible rfl
      rotate_left
      · simp only [Act.put, List.setIfInBounds_toArray, List.set_cons_zero, List.set_cons_succ, i64_w, i32_w]
        rfl
      refine pure_ (i := 18) (N := some 35) (v := ?_) (a' := ?_) #[true, true, true, true, true, true, true, true, true, true, true, true, true, true, true, true, false, true, true, false, false, false, false, false, false] rfl rfl (by kernel_rfl) (fun _ _ _ h => h) (Or.inl ⟨by rfl, ?_⟩) ?_ ?_
      rotate_left
      · intro w'
        go_simp
        with_reducible rfl
      rotate_left
      · simp only [Act.put, List.setIfInBounds_toArray, List.set_cons_zero, List.set_cons_succ, i64_w, i32_w]
        rfl
      refine pure_ (i := 19) (N := some 36) (v := ?_) (a' := ?_) #[true, true, true, true, true, true, true, true, true, true, true, true, true, true, true, true, false, true, true, true, false, false, false, false, false] rfl rfl (by kernel_rfl) (fun _ _ _ h => h) (Or.inl ⟨by rfl, ?_⟩) ?_ ?_
      rotate_left
      · intro w'
        go_simp
        with_reducible rfl
      rotate_left
      · simp only [Act.put, List.setIfInBounds_toArray, List.set_cons_zero, List.set_cons_succ, i64_w, i32_w]
        rfl
      refine pure_ (i := 20) (N := some 37) (v := ?_) (a' := ?_) #[true, true, true, true, true, true, true, true, true, true, true, true, true, true, true, true, false, true, true, true, true, false, false, false, false] rfl rfl (by kernel_rfl) (fun _ _ _ h => h) (Or.inl ⟨by rfl, ?_⟩) ?_ ?_
      rotate_left
      · intro w'
        go_simp
        with_reducible rfl
      rotate_left
      · simp only [Act.put, List.setIfInBounds_toArray, List.set_cons_zero, List.set_cons_succ, i64_w, i32_w]
        rfl
      refine take_ (i := 16) (N := some 33) (v := ?_) (a' := ?_) #[true, true, true, true, true, true, true, true, true, true, true, true, true, true, true, true, true, true, true, true, true, false, false, false, false] rfl rfl (by kernel_rfl) (fun _ _ _ h => h) (Or.inl ⟨by rfl, ?_⟩) hHeld ?_ ?_
      rotate_left
      · rintro w' ⟨s0, s1, s2, s3⟩
        go_simp
        with_reducible rfl
      rotate_left
      · simp only [Act.put, List.setIfInBounds_toArray, List.set_cons_zero, List.set_cons_succ, i64_w, i32_w]
        rfl
      refine take_ (i := 21) (N := some 38) (v := ?_) (a' := ?_) #[true, true, true, true, true, true, true, true, true, true, true, true, true, true, true, true, true, true, true, true, true, true, false, false, false] rfl rfl (by kernel_rfl) (fun _ _ _ h => h) (Or.inl ⟨by rfl, ?_⟩) hHeld ?_ ?_
      rotate_left
      · rintro w' ⟨s0, s1, s2, s3⟩
        go_simp
        with_reducible rfl
      rotate_left
      · simp only [Act.put, List.setIfInBounds_toArray, List.set_cons_zero, List.set_cons_succ, i64_w, i32_w]
        rfl
      refine one_ (i := 22) (N := some 39) #[true, true, true, true, true, true, true, true, true, true, true, true, true, true, true, true, true, true, true, true, true, true, true, false, false] rfl rfl (by kernel_rfl) (by decide) (fun K hK => ?_)
      refine goes_ Try.func19 (by kernel_rfl) rfl #[.slice P1 (rdH hs i).args.length d1, .slice P2 (rdH hs i).args.length d2] (by rfl) rfl rfl (by simp only [List.map_toArray, List.map_cons, List.map_nil]; rfl) ?_
      with_reducible refine (same_n (Kd.C_below K1.out (below_drew HB.out)) L1.out (Kd.C_below K2.out (below_drew HB.out)) L2.out).mono ?_
      rintro e w4 ⟨rfl, hb⟩
      refine ⟨_, rfl, ?_⟩
      have HB4 := Aside0.mk (below_step (below_drew HB.out) hb)
      have HBY : Aside0 (Below wr.heap.size wr w4) := ⟨below_step (below_drew (Below.refl _ _)) hb⟩
      clear hb
      refine hK.out _ _ ⟨pw_cell_below HBY.out z1, pw_cell_below HBY.out z2, pw_cell_below HBY.out z3, pw_cell_below HBY.out z4⟩ (fun hHeld => ?_)
      clear hK K
      refine norm_ (a' := ?_) ?_ ?_
      rotate_left
      · show Act.put _ (some 39) _ = _
        simp only [Act.put, List.setIfInBounds_toArray, List.set_cons_zero, List.set_cons_succ, i64_w, i32_w]
        rfl
      refine pure_ (i := 23) (N := some 40) (v := ?_) (a' := ?_) #[true, true, true, true, true, true, true, true, true, true, true, true, true, true, true, true, true, true, true, true, true, true, true, true, false] rfl rfl (by kernel_rfl) (fun _ _ _ h => h) (Or.inl ⟨by rfl, ?_⟩) ?_ ?_
      rotate_left
      · intro w'
        go_simp
        with_reducible rfl
      rotate_left
      · simp only [Act.put, List.setIfInBounds_toArray, List.set_cons_zero, List.set_cons_succ, i64_w, i32_w]
        rfl
      refine pure_ (i := 24) (N := some 41) (v := ?_) (a' := ?_) #[true, true, true, true, true, true, true, true, true, true, true, true, true, true, true, true, true, true, true, true, true, true, true, true, true] rfl rfl (by kernel_rfl) (fun _ _ _ h => h) (Or.inl ⟨by rfl, ?_⟩) ?_ ?_
      rotate_left
      · intro w'
        go_simp
        with_reducible rfl
      rotate_left
      · simp only [Act.put, List.setIfInBounds_toArray, List.set_cons_zero, List.set_cons_succ, i64_w, i32_w]
        rfl
      refine done_ (by kernel_rfl) ?_

      go_wp2
      go_roundg (n - (i + 1))
      case measure => have := I3.out; have := HLT.out; omega
      case rel => exact ⟨i + 1, by have := HLT.out; omega, by go_num, HB4.out⟩
    · have dl : decide (i < n) = false := by simpa using hlt
      go_wp2
      go_ret
      exact ⟨rfl, HB.out⟩
end Go.Proofs.Ytmofdpkddimmlaa.ETrace
