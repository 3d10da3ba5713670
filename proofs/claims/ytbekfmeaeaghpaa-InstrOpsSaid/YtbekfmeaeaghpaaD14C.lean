/-
  The small functions of package instr and of its reference: what they compute, in plain terms. instr.may: may an instruction be, but for those within it? SameInstrs of equal contents answers true.
-/
import Derived.Test.YtbekfmeaeaghpaaFx0
import Derived.Test.YtbekfmeaeaghpaaFx1
import Derived.Test.YtbekfmeaeaghpaaFx2
import Derived.Test.YtbekfmeaeaghpaaFx3
import Derived.Test.YtbekfmeaeaghpaaD14A
import Derived.BigQuiet
import Derived.Deep.QuietTactic
namespace Go.Proofs.Ytbekfmeaeaghpaa.EInstr
open Go Go.RowKit Go.Proofs.Ytbekfmeaeaghpaa.F Go.Proofs.YtbekfmeaeaghpaaW.Hand Go.Proofs.YtbekfmeaeaghpaaW.PrintWords Go.Proofs.YtbekfmeaeaghpaaW.PrintLast Go.Proofs.YtbekfmeaeaghpaaW.PrintMore
set_option linter.unusedVariables false
set_option linter.unusedSimpArgs false
/-- What stands behind an Op (0: it is none). -/
def ofF (op : Int) : Int :=
  if op = 0 ∨ op = 1 ∨ op = 15 ∨ op = 26 ∨ op = 27 ∨ (69 ≤ op ∧ op ≤ 191) then 1
  else if op = 2 ∨ op = 3 ∨ op = 4 then 2
  else if op = 12 ∨ op = 13 ∨ op = 16 ∨ (32 ≤ op ∧ op ≤ 36) then 3
  else if op = 14 then 4
  else if op = 17 then 5
  else if 40 ≤ op ∧ op ≤ 62 then 6
  else if op = 63 ∨ op = 64 then 7
  else if op = 65 ∨ op = 66 then 8
  else if op = 67 ∨ op = 68 then 9
  else 0
def u32B (x : Int) : Bool := decide (0 ≤ x ∧ x ≤ 4294967295)
def typeB (x : Int) : Bool := decide (x = 64 ∨ (124 ≤ x ∧ x ≤ 127))
def wideB (x : Int) : Bool := decide (x = 66 ∨ x = 68)
theorem dec_iff {p q : Prop} [Decidable p] [Decidable q] (h : p ↔ q) : decide p = decide q := by simp only [h]
set_option maxHeartbeats 4000000 in
theorem of_ev (op : Int) : instr_of.f 10 op = some (ofF op) := by
  unfold instr_of.f ofF
  by_cases h0 : op = 0 ∨ op = 1 ∨ op = 15 ∨ op = 26 ∨ op = 27
  · rcases h0 with rfl | rfl | rfl | rfl | rfl <;> rfl
  · have h1 : op ≠ 0 ∧ op ≠ 1 ∧ op ≠ 15 ∧ op ≠ 26 ∧ op ≠ 27 := by omega
    obtain ⟨a1, a2, a3, a4, a5⟩ := h1
    rw [if_neg a1, if_neg a2, if_neg a3, if_neg a4, if_neg a5]
    by_cases hA : 69 ≤ op ∧ op ≤ 191
    · rw [if_pos (by omega), if_pos (by omega), decide_eq_true hA.2]
      rfl
    · have e : (if op ≥ 69 then instr_of.j0 10 op (decide (op ≤ 191)) else instr_of.j0 10 op false) = instr_of.j0 10 op false := by
        split
        · rw [decide_eq_false (by omega)]
        · rfl
      rw [e, if_neg (by omega), instr_of.j0, if_neg (by decide)]
      by_cases hB : op = 2 ∨ op = 3 ∨ op = 4
      · rw [if_pos hB]
        rcases hB with rfl | rfl | rfl <;> rfl
      · have e : (if op = 2 then instr_of.j1 9 op true else if op = 3 then instr_of.j1 9 op true else instr_of.j1 9 op (op == 4)) = instr_of.j1 9 op false := by
          rw [if_neg (by omega), if_neg (by omega), show (op == 4) = false by rw [beq_eq_false_iff_ne]; omega]
        rw [e, if_neg hB, instr_of.j1, if_neg (by decide)]
        by_cases hC : op = 12 ∨ op = 13 ∨ op = 16 ∨ (32 ≤ op ∧ op ≤ 36)
        · rw [if_pos hC]
          by_cases c1 : op = 12
          · rw [if_pos c1]; rfl
          by_cases c2 : op = 13
          · rw [if_neg c1, if_pos c2]; rfl
          by_cases c3 : op = 16
          · rw [if_neg c1, if_neg c2, if_pos c3]; rfl
          rw [if_neg c1, if_neg c2, if_neg c3, if_pos (by omega), decide_eq_true (by omega)]
          rfl
        · have e : (if op = 12 then instr_of.j2 8 op true else if op = 13 then instr_of.j2 8 op true else if op = 16 then instr_of.j2 8 op true else if op ≥ 32 then instr_of.j2 8 op (decide (op ≤ 36)) else instr_of.j2 8 op false) = instr_of.j2 8 op false := by
            rw [if_neg (by omega), if_neg (by omega), if_neg (by omega)]
            split
            · rw [decide_eq_false (by omega)]
            · rfl
          rw [e, if_neg hC, instr_of.j2, if_neg (by decide)]
          by_cases c4 : op = 14
          · rw [if_pos c4, if_pos c4]
          rw [if_neg c4, if_neg c4]
          by_cases c5 : op = 17
          · rw [if_pos c5, if_pos c5]
          rw [if_neg c5, if_neg c5]
          by_cases c6 : 40 ≤ op ∧ op ≤ 62
          · rw [if_pos (by omega), if_pos c6, decide_eq_true c6.2]; rfl
          have e : (if op ≥ 40 then instr_of.j3 7 op (decide (op ≤ 62)) else instr_of.j3 7 op false) = instr_of.j3 7 op false := by
            split
            · rw [decide_eq_false (by omega)]
            · rfl
          rw [e, if_neg c6, instr_of.j3, if_neg (by decide)]
          by_cases c7 : op = 63
          · rw [if_pos c7, if_pos (Or.inl c7)]; rfl
          rw [if_neg c7]
          by_cases c8 : op = 64
          · rw [if_pos (Or.inr c8), c8]; rfl
          rw [show (op == 64) = false by rw [beq_eq_false_iff_ne]; exact c8, if_neg (by omega), instr_of.j4, if_neg (by decide)]
          by_cases c9 : op = 65
          · rw [if_pos c9, if_pos (Or.inl c9)]; rfl
          rw [if_neg c9]
          by_cases c10 : op = 66
          · rw [if_pos (Or.inr c10), c10]; rfl
          rw [show (op == 66) = false by rw [beq_eq_false_iff_ne]; exact c10, if_neg (by omega), instr_of.j5, if_neg (by decide)]
          by_cases c11 : op = 67
          · rw [if_pos c11, if_pos (Or.inl c11)]
          rw [if_neg c11]
          by_cases c12 : op = 68
          · rw [if_pos c12, if_pos (Or.inr c12)]
          rw [if_neg c12, if_neg (by omega)]
theorem of_c (op : Int) (w : World) : Calls Try.prog 40 #[.int .i64 op] w fun e w' => e = .returned (.int .i64 (ofF op)) ∧ Drawn0 w w' := instr_of.calls 10 op _ w (of_ev op)
theorem u32_ev (x : Int) : instr_u32.f x = some (u32B x) := by
  unfold instr_u32.f u32B
  split <;> simp <;> omega
theorem u32_c (x : Int) (w : World) : Calls Try.prog 57 #[.int .i64 x] w fun e w' => e = .returned (.bool (u32B x)) ∧ Drawn0 w w' := instr_u32.calls x _ w (u32_ev x)
theorem type_ev (x : Int) : instr_Type.f x = some (typeB x) := by
  unfold instr_Type.f typeB
  split
  · simp [*]
  · split
    · rw [Option.some.injEq]
      exact decide_eq_decide.2 (by omega)
    · rw [Option.some.injEq]
      exact (decide_eq_false (by omega)).symm
theorem type_c (x : Int) (w : World) : Calls Try.prog 59 #[.int .i64 x] w fun e w' => e = .returned (.bool (typeB x)) ∧ Drawn0 w w' := instr_Type.calls x _ w (type_ev x)
theorem wide_ev (x : Int) : instr_wide.f x = some (wideB x) := by
  unfold instr_wide.f wideB
  split
  · simp [*]
  · rw [Option.some.injEq, Bool.eq_iff_iff]
    simp
    omega
theorem wide_c (x : Int) (w : World) : Calls Try.prog 58 #[.int .i64 x] w fun e w' => e = .returned (.bool (wideB x)) ∧ Drawn0 w w' := instr_wide.calls x _ w (wide_ev x)
/-- Is one of the labels no number of 32 bits? -/
def anyNo (l : List Int) : Bool := l.any fun x => !u32B x
theorem index_run (l : List Int) (hl : l.length ≤ 9223372036854775807) : ∀ d i, i + d = l.length → ∃ r, slices_IndexFunc_int_int.l0 (d + 1) l (l.length : Int) (i : Int) = some r ∧ (decide (r ≥ 0)) = anyNo (l.drop i) := by
  intro d
  induction d with
  | zero =>
    intro i hi
    rw [slices_IndexFunc_int_int.l0, if_neg (by omega)]
    refine ⟨-1, rfl, ?_⟩
    rw [List.drop_of_length_le (by omega)]
    rfl
  | succ d ih =>
    intro i hi
    have hlt : i < l.length := by omega
    rw [slices_IndexFunc_int_int.l0, if_pos (by omega), if_pos (by omega), if_pos (by omega), List.drop_eq_getElem_cons hlt]
    have hr : rd l (i : Int) = l[i] := by
      unfold rd
      rw [Int.toNat_natCast, List.getD_eq_getElem?_getD, List.getElem?_eq_getElem hlt]
      rfl
    rw [hr]
    unfold instr_may_1.f
    rw [u32_ev]
    simp only [Option.bind_some]
    cases hu : u32B l[i] with
    | false =>
      refine ⟨(i : Int), rfl, ?_⟩
      unfold anyNo
      rw [List.any_cons, hu]
      simp
    | true =>
      rw [if_neg (by decide), show wrap64 ((i : Int) + 1) = ((i + 1 : Nat) : Int) by unfold wrap64; omega]
      obtain ⟨r, h1, h2⟩ := ih (i + 1) (by omega)
      refine ⟨r, h1, ?_⟩
      rw [h2]
      unfold anyNo
      rw [List.any_cons, hu]
      rfl
theorem contains_c {w : World} {A : Option Addr} {c : Nat} {l : List Int} (hA : (Kd.int .i64).C w A l.length l) (hc : l.length ≤ c) :
    Calls Try.prog 60 #[.slice A l.length c, .func (.func 61) #[] #[]] w fun e w' => e = .returned (.bool (anyNo l)) ∧ Drawn0 w w' := by
  obtain ⟨r, h1, h2⟩ := index_run l (Kd.C_max hA) l.length 0 (by omega)
  exact slices_ContainsFunc_int_int.calls (l.length + 1) A c l () _ w hA hc (by
    unfold slices_ContainsFunc_int_int.f slices_IndexFunc_int_int.f
    rw [show slices_IndexFunc_int_int.l0 (l.length + 1) l (l.length : Int) 0 = some r from h1, Option.bind_some, h2, List.drop_zero])
end Go.Proofs.Ytbekfmeaeaghpaa.EInstr
namespace Go.Proofs.Ytbekfmeaeaghpaa.EInstr
open Go Go.RowKit Go.Proofs.Ytbekfmeaeaghpaa.F Go.Proofs.YtbekfmeaeaghpaaW.Hand Go.Proofs.YtbekfmeaeaghpaaW.PrintWords Go.Proofs.YtbekfmeaeaghpaaW.PrintLast Go.Proofs.YtbekfmeaeaghpaaW.PrintMore
set_option linter.unusedVariables false
set_option linter.unusedSimpArgs false

def mayA (k : Int) (x : S44) : Bool := if k = 3 ∨ k = 5 ∨ k = 6 then u32B x.f1 else (x.f1 == 0)
def mayC (k : Int) (x : S44) : Bool := if k = 6 then u32B x.f2 else (x.f2 == 0)
def mayN (k : Int) (x : S44) : Bool := if (k = 8 ∨ k = 9) ∧ wideB x.f0 = false then u32B x.f3 else (decide (k = 8 ∨ k = 9) || (x.f3 == 0))
def mayT (k : Int) (x : S44) : Bool := if k = 2 then typeB x.f4 else (x.f4 == 0)
def mayL (k : Int) (x : S44) : Bool := if k = 4 then decide (1 ≤ x.f5.length ∧ x.f5.length ≤ 1024) && !anyNo x.f5 else decide (x.f5.length = 0)
def mayI (k : Int) (x : S44) : Bool := (decide (k = 2) && ((x.f0 == 4) || decide (x.f7.length = 0))) || decide (x.f6.length + x.f7.length = 0)
/-- May an instruction be, but for those within it? -/
def mayB (x : S44) : Bool := decide (ofF x.f0 ≠ 0) && mayA (ofF x.f0) x && mayC (ofF x.f0) x && mayN (ofF x.f0) x && mayT (ofF x.f0) x && mayL (ofF x.f0) x && mayI (ofF x.f0) x
theorem of_k {op k : Int} (h : ofF op = k) (w : World) : Calls Try.prog 40 #[.int .i64 op] w fun e w' => e = .returned (.int .i64 k) ∧ Drawn0 w w' := h ▸ of_c op w
theorem ret_bool {a b : Bool} (h : a = b) : Ending.returned (.bool a) = Ending.returned (.bool b) := by rw [h]
theorem below_drewN2 (w : World) (n : Nat) : Below w.heap.size w (w.drewN n) := pw_below_drewN (Below.refl _ _) n
theorem contains_d {w W : World} {A : Option Addr} {c : Nat} {l : List Int} (h : (Kd.int .i64).C w A l.length l ∧ l.length ≤ c) (hb : Below w.heap.size w W) :
    Calls Try.prog 60 #[.slice A l.length c, .func (.func 61) #[] #[]] W fun e w' => e = .returned (.bool (anyNo l)) ∧ Drawn0 W w' := contains_c (Kd.C_below h.1 hb) h.2
theorem sum_zero {a b : Nat} (ha : a ≤ 9223372036854775807) (hb : b ≤ 9223372036854775807) : (wrap64 ((a : Int) + (b : Int)) == 0) = decide (a + b = 0) := by
  rw [Bool.eq_iff_iff]
  simp only [beq_iff_eq, decide_eq_true_eq]
  unfold wrap64
  omega
theorem quiet_d {P : Program} {f : FuncId} {args : Array Value} {w : World} {a n : Nat} {v : Value} (h : Calls P f args (w.drewN (a + n)) fun e w' => e = .returned v ∧ Drawn0 (w.drewN (a + n)) w') :
    Calls P f args (w.drewN (a + n)) fun e w'' => e = .returned v ∧ ∃ m, w'' = w.drewN (a + m) :=
  h.mono fun _ _ ⟨he, ⟨⟨m, hm⟩⟩⟩ => ⟨he, n + m, by rw [hm, World.drewN_drewN, Nat.add_assoc]⟩
theorem drawn_i {w w' : World} (n : Nat) (h : w' = w.drewN n) : Drawn0 w w' := ⟨⟨n, h⟩⟩
theorem ofF_range (op : Int) : ofF op = 0 ∨ ofF op = 1 ∨ ofF op = 2 ∨ ofF op = 3 ∨ ofF op = 4 ∨ ofF op = 5 ∨ ofF op = 6 ∨ ofF op = 7 ∨ ofF op = 8 ∨ ofF op = 9 := by
  unfold ofF
  repeat' split
  all_goals omega
set_option maxHeartbeats 4000000 in
set_option maxRecDepth 100000 in
theorem may_0 {w : World} {ad : Addr} {x : S44} {A5 A6 A7 : Option Addr} {c5 c6 c7 : Nat} (hk : ofF x.f0 = 0) (z0 : w.cell? ad = some (.int .i64 x.f0)) (z1 : w.cell? ⟨ad.block, ad.off + 1, none⟩ = some (.int .i64 x.f1)) (z2 : w.cell? ⟨ad.block, ad.off + 2, none⟩ = some (.int .i64 x.f2)) (z3 : w.cell? ⟨ad.block, ad.off + 3, none⟩ = some (.int .i64 x.f3)) (z4 : w.cell? ⟨ad.block, ad.off + 4, none⟩ = some (.int .i64 x.f4)) (z5 : w.cell? ⟨ad.block, ad.off + 5, none⟩ = some (.slice A5 x.f5.length c5)) (z6 : w.cell? ⟨ad.block, ad.off + 6, none⟩ = some (.slice A6 x.f6.length c6)) (z7 : w.cell? ⟨ad.block, ad.off + 7, none⟩ = some (.slice A7 x.f7.length c7)) (l5 : x.f5.length ≤ c5) (C5 : (Kd.int .i64).C w A5 x.f5.length x.f5) (m6 : x.f6.length ≤ 9223372036854775807) (m7 : x.f7.length ≤ 9223372036854775807) :
    Calls Try.prog 41 #[.pointer (some ad)] w fun e w' => e = .returned (.bool (mayB x)) ∧ Drawn0 w w' := by
  have HK := Aside0.mk hk
  have M6 := Aside0.mk m6
  have M7 := Aside0.mk m7
  have HC := Aside0.mk (And.intro C5 l5)
  clear m6 m7 C5 l5
  all_goals go_enter Try.func41, Try.ntmps41
  all_goals go_wp2_with (first | (go_at_call 40; (with_reducible refine (of_k hk _).mono ?_); rintro e w' ⟨rfl, ⟨n, rfl⟩⟩) | (go_at_call 57; (with_reducible refine (u32_c _ _).mono ?_); rintro e w' ⟨rfl, ⟨n, rfl⟩⟩) | (go_at_call 58; (with_reducible refine (wide_c _ _).mono ?_); rintro e w' ⟨rfl, ⟨n, rfl⟩⟩) | (go_at_call 59; (with_reducible refine (type_c _ _).mono ?_); rintro e w' ⟨rfl, ⟨n, rfl⟩⟩) | (go_at_call 60; (with_reducible refine (contains_d HC.out (below_drewN2 _ _)).mono ?_); rintro e w' ⟨rfl, ⟨n, rfl⟩⟩))
  repeat (any_goals (go_quiet ((go_at_call 57; exact quiet_d (u32_c _ _))); try go_wp2_with (first | (go_at_call 40; (with_reducible refine (of_k hk _).mono ?_); rintro e w' ⟨rfl, ⟨n, rfl⟩⟩) | (go_at_call 57; (with_reducible refine (u32_c _ _).mono ?_); rintro e w' ⟨rfl, ⟨n, rfl⟩⟩) | (go_at_call 58; (with_reducible refine (wide_c _ _).mono ?_); rintro e w' ⟨rfl, ⟨n, rfl⟩⟩) | (go_at_call 59; (with_reducible refine (type_c _ _).mono ?_); rintro e w' ⟨rfl, ⟨n, rfl⟩⟩) | (go_at_call 60; (with_reducible refine (contains_d HC.out (below_drewN2 _ _)).mono ?_); rintro e w' ⟨rfl, ⟨n, rfl⟩⟩))))
  all_goals
    have hk := HK.out
    try have h4 := H4.out
    try have h7 := H7.out
    go_ret
    refine ⟨ret_bool ?_, drawn_i _ rfl⟩
    unfold mayB
    rw [hk]
    clear hk
    first
      | (simp [mayA, mayC, mayN, mayT, mayL, mayI, sum_zero M6.out M7.out, *]; done)
      | (simp [mayA, mayC, mayN, mayT, mayL, mayI, sum_zero M6.out M7.out, *]; omega)
      | skip
set_option maxHeartbeats 4000000 in
set_option maxRecDepth 100000 in
theorem may_1 {w : World} {ad : Addr} {x : S44} {A5 A6 A7 : Option Addr} {c5 c6 c7 : Nat} (hk : ofF x.f0 = 1) (z0 : w.cell? ad = some (.int .i64 x.f0)) (z1 : w.cell? ⟨ad.block, ad.off + 1, none⟩ = some (.int .i64 x.f1)) (z2 : w.cell? ⟨ad.block, ad.off + 2, none⟩ = some (.int .i64 x.f2)) (z3 : w.cell? ⟨ad.block, ad.off + 3, none⟩ = some (.int .i64 x.f3)) (z4 : w.cell? ⟨ad.block, ad.off + 4, none⟩ = some (.int .i64 x.f4)) (z5 : w.cell? ⟨ad.block, ad.off + 5, none⟩ = some (.slice A5 x.f5.length c5)) (z6 : w.cell? ⟨ad.block, ad.off + 6, none⟩ = some (.slice A6 x.f6.length c6)) (z7 : w.cell? ⟨ad.block, ad.off + 7, none⟩ = some (.slice A7 x.f7.length c7)) (l5 : x.f5.length ≤ c5) (C5 : (Kd.int .i64).C w A5 x.f5.length x.f5) (m6 : x.f6.length ≤ 9223372036854775807) (m7 : x.f7.length ≤ 9223372036854775807) :
    Calls Try.prog 41 #[.pointer (some ad)] w fun e w' => e = .returned (.bool (mayB x)) ∧ Drawn0 w w' := by
  have HK := Aside0.mk hk
  have M6 := Aside0.mk m6
  have M7 := Aside0.mk m7
  have HC := Aside0.mk (And.intro C5 l5)
  clear m6 m7 C5 l5
  all_goals go_enter Try.func41, Try.ntmps41
  all_goals go_wp2_with (first | (go_at_call 40; (with_reducible refine (of_k hk _).mono ?_); rintro e w' ⟨rfl, ⟨n, rfl⟩⟩) | (go_at_call 57; (with_reducible refine (u32_c _ _).mono ?_); rintro e w' ⟨rfl, ⟨n, rfl⟩⟩) | (go_at_call 58; (with_reducible refine (wide_c _ _).mono ?_); rintro e w' ⟨rfl, ⟨n, rfl⟩⟩) | (go_at_call 59; (with_reducible refine (type_c _ _).mono ?_); rintro e w' ⟨rfl, ⟨n, rfl⟩⟩) | (go_at_call 60; (with_reducible refine (contains_d HC.out (below_drewN2 _ _)).mono ?_); rintro e w' ⟨rfl, ⟨n, rfl⟩⟩))
  repeat (any_goals (go_quiet ((go_at_call 57; exact quiet_d (u32_c _ _))); try go_wp2_with (first | (go_at_call 40; (with_reducible refine (of_k hk _).mono ?_); rintro e w' ⟨rfl, ⟨n, rfl⟩⟩) | (go_at_call 57; (with_reducible refine (u32_c _ _).mono ?_); rintro e w' ⟨rfl, ⟨n, rfl⟩⟩) | (go_at_call 58; (with_reducible refine (wide_c _ _).mono ?_); rintro e w' ⟨rfl, ⟨n, rfl⟩⟩) | (go_at_call 59; (with_reducible refine (type_c _ _).mono ?_); rintro e w' ⟨rfl, ⟨n, rfl⟩⟩) | (go_at_call 60; (with_reducible refine (contains_d HC.out (below_drewN2 _ _)).mono ?_); rintro e w' ⟨rfl, ⟨n, rfl⟩⟩))))
  all_goals
    have hk := HK.out
    try have h4 := H4.out
    try have h7 := H7.out
    go_ret
    refine ⟨ret_bool ?_, drawn_i _ rfl⟩
    unfold mayB
    rw [hk]
    clear hk
    first
      | (simp [mayA, mayC, mayN, mayT, mayL, mayI, sum_zero M6.out M7.out, *]; done)
      | (simp [mayA, mayC, mayN, mayT, mayL, mayI, sum_zero M6.out M7.out, *]; omega)
      | skip
set_option maxHeartbeats 4000000 in
set_option maxRecDepth 100000 in
theorem may_2 {w : World} {ad : Addr} {x : S44} {A5 A6 A7 : Option Addr} {c5 c6 c7 : Nat} (hk : ofF x.f0 = 2) (z0 : w.cell? ad = some (.int .i64 x.f0)) (z1 : w.cell? ⟨ad.block, ad.off + 1, none⟩ = some (.int .i64 x.f1)) (z2 : w.cell? ⟨ad.block, ad.off + 2, none⟩ = some (.int .i64 x.f2)) (z3 : w.cell? ⟨ad.block, ad.off + 3, none⟩ = some (.int .i64 x.f3)) (z4 : w.cell? ⟨ad.block, ad.off + 4, none⟩ = some (.int .i64 x.f4)) (z5 : w.cell? ⟨ad.block, ad.off + 5, none⟩ = some (.slice A5 x.f5.length c5)) (z6 : w.cell? ⟨ad.block, ad.off + 6, none⟩ = some (.slice A6 x.f6.length c6)) (z7 : w.cell? ⟨ad.block, ad.off + 7, none⟩ = some (.slice A7 x.f7.length c7)) (l5 : x.f5.length ≤ c5) (C5 : (Kd.int .i64).C w A5 x.f5.length x.f5) (m6 : x.f6.length ≤ 9223372036854775807) (m7 : x.f7.length ≤ 9223372036854775807) :
    Calls Try.prog 41 #[.pointer (some ad)] w fun e w' => e = .returned (.bool (mayB x)) ∧ Drawn0 w w' := by
  have HK := Aside0.mk hk
  have M6 := Aside0.mk m6
  have M7 := Aside0.mk m7
  have HC := Aside0.mk (And.intro C5 l5)
  clear m6 m7 C5 l5
  have hc : ((x.f0 == 4) = true ∧ x.f0 = 4) ∨ ((x.f0 == 4) = false ∧ ¬ x.f0 = 4 ∧ ((x.f7.length : Int) == 0) = true ∧ x.f7.length = 0) ∨ ((x.f0 == 4) = false ∧ ¬ x.f0 = 4 ∧ ((x.f7.length : Int) == 0) = false ∧ ¬ x.f7.length = 0) := by
    by_cases h4 : x.f0 = 4
    · exact .inl ⟨by simp [h4], h4⟩
    · by_cases h7 : x.f7.length = 0
      · exact .inr (.inl ⟨by simp [h4], h4, by simp [h7], h7⟩)
      · exact .inr (.inr ⟨by simp [h4], h4, by rw [beq_eq_false_iff_ne]; omega, h7⟩)
  rcases hc with ⟨d4, h4⟩ | ⟨d4, h4, d7, h7⟩ | ⟨d4, h4, d7, h7⟩
  all_goals
    have H4 := Aside0.mk h4
    clear h4
    try (have H7 := Aside0.mk h7; clear h7)
  all_goals go_enter Try.func41, Try.ntmps41
  all_goals go_wp2_with (first | (go_at_call 40; (with_reducible refine (of_k hk _).mono ?_); rintro e w' ⟨rfl, ⟨n, rfl⟩⟩) | (go_at_call 57; (with_reducible refine (u32_c _ _).mono ?_); rintro e w' ⟨rfl, ⟨n, rfl⟩⟩) | (go_at_call 58; (with_reducible refine (wide_c _ _).mono ?_); rintro e w' ⟨rfl, ⟨n, rfl⟩⟩) | (go_at_call 59; (with_reducible refine (type_c _ _).mono ?_); rintro e w' ⟨rfl, ⟨n, rfl⟩⟩) | (go_at_call 60; (with_reducible refine (contains_d HC.out (below_drewN2 _ _)).mono ?_); rintro e w' ⟨rfl, ⟨n, rfl⟩⟩))
  repeat (any_goals (go_quiet ((go_at_call 57; exact quiet_d (u32_c _ _))); try go_wp2_with (first | (go_at_call 40; (with_reducible refine (of_k hk _).mono ?_); rintro e w' ⟨rfl, ⟨n, rfl⟩⟩) | (go_at_call 57; (with_reducible refine (u32_c _ _).mono ?_); rintro e w' ⟨rfl, ⟨n, rfl⟩⟩) | (go_at_call 58; (with_reducible refine (wide_c _ _).mono ?_); rintro e w' ⟨rfl, ⟨n, rfl⟩⟩) | (go_at_call 59; (with_reducible refine (type_c _ _).mono ?_); rintro e w' ⟨rfl, ⟨n, rfl⟩⟩) | (go_at_call 60; (with_reducible refine (contains_d HC.out (below_drewN2 _ _)).mono ?_); rintro e w' ⟨rfl, ⟨n, rfl⟩⟩))))
  all_goals
    have hk := HK.out
    try have h4 := H4.out
    try have h7 := H7.out
    go_ret
    refine ⟨ret_bool ?_, drawn_i _ rfl⟩
    unfold mayB
    rw [hk]
    clear hk
    first
      | (simp [mayA, mayC, mayN, mayT, mayL, mayI, sum_zero M6.out M7.out, *]; done)
      | (simp [mayA, mayC, mayN, mayT, mayL, mayI, sum_zero M6.out M7.out, *]; omega)
      | skip
set_option maxHeartbeats 4000000 in
set_option maxRecDepth 100000 in
theorem may_3 {w : World} {ad : Addr} {x : S44} {A5 A6 A7 : Option Addr} {c5 c6 c7 : Nat} (hk : ofF x.f0 = 3) (z0 : w.cell? ad = some (.int .i64 x.f0)) (z1 : w.cell? ⟨ad.block, ad.off + 1, none⟩ = some (.int .i64 x.f1)) (z2 : w.cell? ⟨ad.block, ad.off + 2, none⟩ = some (.int .i64 x.f2)) (z3 : w.cell? ⟨ad.block, ad.off + 3, none⟩ = some (.int .i64 x.f3)) (z4 : w.cell? ⟨ad.block, ad.off + 4, none⟩ = some (.int .i64 x.f4)) (z5 : w.cell? ⟨ad.block, ad.off + 5, none⟩ = some (.slice A5 x.f5.length c5)) (z6 : w.cell? ⟨ad.block, ad.off + 6, none⟩ = some (.slice A6 x.f6.length c6)) (z7 : w.cell? ⟨ad.block, ad.off + 7, none⟩ = some (.slice A7 x.f7.length c7)) (l5 : x.f5.length ≤ c5) (C5 : (Kd.int .i64).C w A5 x.f5.length x.f5) (m6 : x.f6.length ≤ 9223372036854775807) (m7 : x.f7.length ≤ 9223372036854775807) :
    Calls Try.prog 41 #[.pointer (some ad)] w fun e w' => e = .returned (.bool (mayB x)) ∧ Drawn0 w w' := by
  have HK := Aside0.mk hk
  have M6 := Aside0.mk m6
  have M7 := Aside0.mk m7
  have HC := Aside0.mk (And.intro C5 l5)
  clear m6 m7 C5 l5
  all_goals go_enter Try.func41, Try.ntmps41
  all_goals go_wp2_with (first | (go_at_call 40; (with_reducible refine (of_k hk _).mono ?_); rintro e w' ⟨rfl, ⟨n, rfl⟩⟩) | (go_at_call 57; (with_reducible refine (u32_c _ _).mono ?_); rintro e w' ⟨rfl, ⟨n, rfl⟩⟩) | (go_at_call 58; (with_reducible refine (wide_c _ _).mono ?_); rintro e w' ⟨rfl, ⟨n, rfl⟩⟩) | (go_at_call 59; (with_reducible refine (type_c _ _).mono ?_); rintro e w' ⟨rfl, ⟨n, rfl⟩⟩) | (go_at_call 60; (with_reducible refine (contains_d HC.out (below_drewN2 _ _)).mono ?_); rintro e w' ⟨rfl, ⟨n, rfl⟩⟩))
  repeat (any_goals (go_quiet ((go_at_call 57; exact quiet_d (u32_c _ _))); try go_wp2_with (first | (go_at_call 40; (with_reducible refine (of_k hk _).mono ?_); rintro e w' ⟨rfl, ⟨n, rfl⟩⟩) | (go_at_call 57; (with_reducible refine (u32_c _ _).mono ?_); rintro e w' ⟨rfl, ⟨n, rfl⟩⟩) | (go_at_call 58; (with_reducible refine (wide_c _ _).mono ?_); rintro e w' ⟨rfl, ⟨n, rfl⟩⟩) | (go_at_call 59; (with_reducible refine (type_c _ _).mono ?_); rintro e w' ⟨rfl, ⟨n, rfl⟩⟩) | (go_at_call 60; (with_reducible refine (contains_d HC.out (below_drewN2 _ _)).mono ?_); rintro e w' ⟨rfl, ⟨n, rfl⟩⟩))))
  all_goals
    have hk := HK.out
    try have h4 := H4.out
    try have h7 := H7.out
    go_ret
    refine ⟨ret_bool ?_, drawn_i _ rfl⟩
    unfold mayB
    rw [hk]
    clear hk
    first
      | (simp [mayA, mayC, mayN, mayT, mayL, mayI, sum_zero M6.out M7.out, *]; done)
      | (simp [mayA, mayC, mayN, mayT, mayL, mayI, sum_zero M6.out M7.out, *]; omega)
      | skip
set_option maxHeartbeats 4000000 in
set_option maxRecDepth 100000 in
theorem may_4 {w : World} {ad : Addr} {x : S44} {A5 A6 A7 : Option Addr} {c5 c6 c7 : Nat} (hk : ofF x.f0 = 4) (z0 : w.cell? ad = some (.int .i64 x.f0)) (z1 : w.cell? ⟨ad.block, ad.off + 1, none⟩ = some (.int .i64 x.f1)) (z2 : w.cell? ⟨ad.block, ad.off + 2, none⟩ = some (.int .i64 x.f2)) (z3 : w.cell? ⟨ad.block, ad.off + 3, none⟩ = some (.int .i64 x.f3)) (z4 : w.cell? ⟨ad.block, ad.off + 4, none⟩ = some (.int .i64 x.f4)) (z5 : w.cell? ⟨ad.block, ad.off + 5, none⟩ = some (.slice A5 x.f5.length c5)) (z6 : w.cell? ⟨ad.block, ad.off + 6, none⟩ = some (.slice A6 x.f6.length c6)) (z7 : w.cell? ⟨ad.block, ad.off + 7, none⟩ = some (.slice A7 x.f7.length c7)) (l5 : x.f5.length ≤ c5) (C5 : (Kd.int .i64).C w A5 x.f5.length x.f5) (m6 : x.f6.length ≤ 9223372036854775807) (m7 : x.f7.length ≤ 9223372036854775807) :
    Calls Try.prog 41 #[.pointer (some ad)] w fun e w' => e = .returned (.bool (mayB x)) ∧ Drawn0 w w' := by
  have HK := Aside0.mk hk
  have M6 := Aside0.mk m6
  have M7 := Aside0.mk m7
  have HC := Aside0.mk (And.intro C5 l5)
  clear m6 m7 C5 l5
  all_goals go_enter Try.func41, Try.ntmps41
  all_goals go_wp2_with (first | (go_at_call 40; (with_reducible refine (of_k hk _).mono ?_); rintro e w' ⟨rfl, ⟨n, rfl⟩⟩) | (go_at_call 57; (with_reducible refine (u32_c _ _).mono ?_); rintro e w' ⟨rfl, ⟨n, rfl⟩⟩) | (go_at_call 58; (with_reducible refine (wide_c _ _).mono ?_); rintro e w' ⟨rfl, ⟨n, rfl⟩⟩) | (go_at_call 59; (with_reducible refine (type_c _ _).mono ?_); rintro e w' ⟨rfl, ⟨n, rfl⟩⟩) | (go_at_call 60; (with_reducible refine (contains_d HC.out (below_drewN2 _ _)).mono ?_); rintro e w' ⟨rfl, ⟨n, rfl⟩⟩))
  repeat (any_goals (go_quiet ((go_at_call 57; exact quiet_d (u32_c _ _))); try go_wp2_with (first | (go_at_call 40; (with_reducible refine (of_k hk _).mono ?_); rintro e w' ⟨rfl, ⟨n, rfl⟩⟩) | (go_at_call 57; (with_reducible refine (u32_c _ _).mono ?_); rintro e w' ⟨rfl, ⟨n, rfl⟩⟩) | (go_at_call 58; (with_reducible refine (wide_c _ _).mono ?_); rintro e w' ⟨rfl, ⟨n, rfl⟩⟩) | (go_at_call 59; (with_reducible refine (type_c _ _).mono ?_); rintro e w' ⟨rfl, ⟨n, rfl⟩⟩) | (go_at_call 60; (with_reducible refine (contains_d HC.out (below_drewN2 _ _)).mono ?_); rintro e w' ⟨rfl, ⟨n, rfl⟩⟩))))
  all_goals
    have hk := HK.out
    try have h4 := H4.out
    try have h7 := H7.out
    go_ret
    refine ⟨ret_bool ?_, drawn_i _ rfl⟩
    unfold mayB
    rw [hk]
    clear hk
    first
      | (simp [mayA, mayC, mayN, mayT, mayL, mayI, sum_zero M6.out M7.out, *]; done)
      | (simp [mayA, mayC, mayN, mayT, mayL, mayI, sum_zero M6.out M7.out, *]; omega)
      | skip
set_option maxHeartbeats 4000000 in
set_option maxRecDepth 100000 in
theorem may_5 {w : World} {ad : Addr} {x : S44} {A5 A6 A7 : Option Addr} {c5 c6 c7 : Nat} (hk : ofF x.f0 = 5) (z0 : w.cell? ad = some (.int .i64 x.f0)) (z1 : w.cell? ⟨ad.block, ad.off + 1, none⟩ = some (.int .i64 x.f1)) (z2 : w.cell? ⟨ad.block, ad.off + 2, none⟩ = some (.int .i64 x.f2)) (z3 : w.cell? ⟨ad.block, ad.off + 3, none⟩ = some (.int .i64 x.f3)) (z4 : w.cell? ⟨ad.block, ad.off + 4, none⟩ = some (.int .i64 x.f4)) (z5 : w.cell? ⟨ad.block, ad.off + 5, none⟩ = some (.slice A5 x.f5.length c5)) (z6 : w.cell? ⟨ad.block, ad.off + 6, none⟩ = some (.slice A6 x.f6.length c6)) (z7 : w.cell? ⟨ad.block, ad.off + 7, none⟩ = some (.slice A7 x.f7.length c7)) (l5 : x.f5.length ≤ c5) (C5 : (Kd.int .i64).C w A5 x.f5.length x.f5) (m6 : x.f6.length ≤ 9223372036854775807) (m7 : x.f7.length ≤ 9223372036854775807) :
    Calls Try.prog 41 #[.pointer (some ad)] w fun e w' => e = .returned (.bool (mayB x)) ∧ Drawn0 w w' := by
  have HK := Aside0.mk hk
  have M6 := Aside0.mk m6
  have M7 := Aside0.mk m7
  have HC := Aside0.mk (And.intro C5 l5)
  clear m6 m7 C5 l5
  all_goals go_enter Try.func41, Try.ntmps41
  all_goals go_wp2_with (first | (go_at_call 40; (with_reducible refine (of_k hk _).mono ?_); rintro e w' ⟨rfl, ⟨n, rfl⟩⟩) | (go_at_call 57; (with_reducible refine (u32_c _ _).mono ?_); rintro e w' ⟨rfl, ⟨n, rfl⟩⟩) | (go_at_call 58; (with_reducible refine (wide_c _ _).mono ?_); rintro e w' ⟨rfl, ⟨n, rfl⟩⟩) | (go_at_call 59; (with_reducible refine (type_c _ _).mono ?_); rintro e w' ⟨rfl, ⟨n, rfl⟩⟩) | (go_at_call 60; (with_reducible refine (contains_d HC.out (below_drewN2 _ _)).mono ?_); rintro e w' ⟨rfl, ⟨n, rfl⟩⟩))
  repeat (any_goals (go_quiet ((go_at_call 57; exact quiet_d (u32_c _ _))); try go_wp2_with (first | (go_at_call 40; (with_reducible refine (of_k hk _).mono ?_); rintro e w' ⟨rfl, ⟨n, rfl⟩⟩) | (go_at_call 57; (with_reducible refine (u32_c _ _).mono ?_); rintro e w' ⟨rfl, ⟨n, rfl⟩⟩) | (go_at_call 58; (with_reducible refine (wide_c _ _).mono ?_); rintro e w' ⟨rfl, ⟨n, rfl⟩⟩) | (go_at_call 59; (with_reducible refine (type_c _ _).mono ?_); rintro e w' ⟨rfl, ⟨n, rfl⟩⟩) | (go_at_call 60; (with_reducible refine (contains_d HC.out (below_drewN2 _ _)).mono ?_); rintro e w' ⟨rfl, ⟨n, rfl⟩⟩))))
  all_goals
    have hk := HK.out
    try have h4 := H4.out
    try have h7 := H7.out
    go_ret
    refine ⟨ret_bool ?_, drawn_i _ rfl⟩
    unfold mayB
    rw [hk]
    clear hk
    first
      | (simp [mayA, mayC, mayN, mayT, mayL, mayI, sum_zero M6.out M7.out, *]; done)
      | (simp [mayA, mayC, mayN, mayT, mayL, mayI, sum_zero M6.out M7.out, *]; omega)
      | skip
set_option maxHeartbeats 4000000 in
set_option maxRecDepth 100000 in
theorem may_6 {w : World} {ad : Addr} {x : S44} {A5 A6 A7 : Option Addr} {c5 c6 c7 : Nat} (hk : ofF x.f0 = 6) (z0 : w.cell? ad = some (.int .i64 x.f0)) (z1 : w.cell? ⟨ad.block, ad.off + 1, none⟩ = some (.int .i64 x.f1)) (z2 : w.cell? ⟨ad.block, ad.off + 2, none⟩ = some (.int .i64 x.f2)) (z3 : w.cell? ⟨ad.block, ad.off + 3, none⟩ = some (.int .i64 x.f3)) (z4 : w.cell? ⟨ad.block, ad.off + 4, none⟩ = some (.int .i64 x.f4)) (z5 : w.cell? ⟨ad.block, ad.off + 5, none⟩ = some (.slice A5 x.f5.length c5)) (z6 : w.cell? ⟨ad.block, ad.off + 6, none⟩ = some (.slice A6 x.f6.length c6)) (z7 : w.cell? ⟨ad.block, ad.off + 7, none⟩ = some (.slice A7 x.f7.length c7)) (l5 : x.f5.length ≤ c5) (C5 : (Kd.int .i64).C w A5 x.f5.length x.f5) (m6 : x.f6.length ≤ 9223372036854775807) (m7 : x.f7.length ≤ 9223372036854775807) :
    Calls Try.prog 41 #[.pointer (some ad)] w fun e w' => e = .returned (.bool (mayB x)) ∧ Drawn0 w w' := by
  have HK := Aside0.mk hk
  have M6 := Aside0.mk m6
  have M7 := Aside0.mk m7
  have HC := Aside0.mk (And.intro C5 l5)
  clear m6 m7 C5 l5
  all_goals go_enter Try.func41, Try.ntmps41
  all_goals go_wp2_with (first | (go_at_call 40; (with_reducible refine (of_k hk _).mono ?_); rintro e w' ⟨rfl, ⟨n, rfl⟩⟩) | (go_at_call 57; (with_reducible refine (u32_c _ _).mono ?_); rintro e w' ⟨rfl, ⟨n, rfl⟩⟩) | (go_at_call 58; (with_reducible refine (wide_c _ _).mono ?_); rintro e w' ⟨rfl, ⟨n, rfl⟩⟩) | (go_at_call 59; (with_reducible refine (type_c _ _).mono ?_); rintro e w' ⟨rfl, ⟨n, rfl⟩⟩) | (go_at_call 60; (with_reducible refine (contains_d HC.out (below_drewN2 _ _)).mono ?_); rintro e w' ⟨rfl, ⟨n, rfl⟩⟩))
  repeat (any_goals (go_quiet ((go_at_call 57; exact quiet_d (u32_c _ _))); try go_wp2_with (first | (go_at_call 40; (with_reducible refine (of_k hk _).mono ?_); rintro e w' ⟨rfl, ⟨n, rfl⟩⟩) | (go_at_call 57; (with_reducible refine (u32_c _ _).mono ?_); rintro e w' ⟨rfl, ⟨n, rfl⟩⟩) | (go_at_call 58; (with_reducible refine (wide_c _ _).mono ?_); rintro e w' ⟨rfl, ⟨n, rfl⟩⟩) | (go_at_call 59; (with_reducible refine (type_c _ _).mono ?_); rintro e w' ⟨rfl, ⟨n, rfl⟩⟩) | (go_at_call 60; (with_reducible refine (contains_d HC.out (below_drewN2 _ _)).mono ?_); rintro e w' ⟨rfl, ⟨n, rfl⟩⟩))))
  all_goals
    have hk := HK.out
    try have h4 := H4.out
    try have h7 := H7.out
    go_ret
    refine ⟨ret_bool ?_, drawn_i _ rfl⟩
    unfold mayB
    rw [hk]
    clear hk
    first
      | (simp [mayA, mayC, mayN, mayT, mayL, mayI, sum_zero M6.out M7.out, *]; done)
      | (simp [mayA, mayC, mayN, mayT, mayL, mayI, sum_zero M6.out M7.out, *]; omega)
      | skip
set_option maxHeartbeats 4000000 in
set_option maxRecDepth 100000 in
theorem may_7 {w : World} {ad : Addr} {x : S44} {A5 A6 A7 : Option Addr} {c5 c6 c7 : Nat} (hk : ofF x.f0 = 7) (z0 : w.cell? ad = some (.int .i64 x.f0)) (z1 : w.cell? ⟨ad.block, ad.off + 1, none⟩ = some (.int .i64 x.f1)) (z2 : w.cell? ⟨ad.block, ad.off + 2, none⟩ = some (.int .i64 x.f2)) (z3 : w.cell? ⟨ad.block, ad.off + 3, none⟩ = some (.int .i64 x.f3)) (z4 : w.cell? ⟨ad.block, ad.off + 4, none⟩ = some (.int .i64 x.f4)) (z5 : w.cell? ⟨ad.block, ad.off + 5, none⟩ = some (.slice A5 x.f5.length c5)) (z6 : w.cell? ⟨ad.block, ad.off + 6, none⟩ = some (.slice A6 x.f6.length c6)) (z7 : w.cell? ⟨ad.block, ad.off + 7, none⟩ = some (.slice A7 x.f7.length c7)) (l5 : x.f5.length ≤ c5) (C5 : (Kd.int .i64).C w A5 x.f5.length x.f5) (m6 : x.f6.length ≤ 9223372036854775807) (m7 : x.f7.length ≤ 9223372036854775807) :
    Calls Try.prog 41 #[.pointer (some ad)] w fun e w' => e = .returned (.bool (mayB x)) ∧ Drawn0 w w' := by
  have HK := Aside0.mk hk
  have M6 := Aside0.mk m6
  have M7 := Aside0.mk m7
  have HC := Aside0.mk (And.intro C5 l5)
  clear m6 m7 C5 l5
  all_goals go_enter Try.func41, Try.ntmps41
  all_goals go_wp2_with (first | (go_at_call 40; (with_reducible refine (of_k hk _).mono ?_); rintro e w' ⟨rfl, ⟨n, rfl⟩⟩) | (go_at_call 57; (with_reducible refine (u32_c _ _).mono ?_); rintro e w' ⟨rfl, ⟨n, rfl⟩⟩) | (go_at_call 58; (with_reducible refine (wide_c _ _).mono ?_); rintro e w' ⟨rfl, ⟨n, rfl⟩⟩) | (go_at_call 59; (with_reducible refine (type_c _ _).mono ?_); rintro e w' ⟨rfl, ⟨n, rfl⟩⟩) | (go_at_call 60; (with_reducible refine (contains_d HC.out (below_drewN2 _ _)).mono ?_); rintro e w' ⟨rfl, ⟨n, rfl⟩⟩))
  repeat (any_goals (go_quiet ((go_at_call 57; exact quiet_d (u32_c _ _))); try go_wp2_with (first | (go_at_call 40; (with_reducible refine (of_k hk _).mono ?_); rintro e w' ⟨rfl, ⟨n, rfl⟩⟩) | (go_at_call 57; (with_reducible refine (u32_c _ _).mono ?_); rintro e w' ⟨rfl, ⟨n, rfl⟩⟩) | (go_at_call 58; (with_reducible refine (wide_c _ _).mono ?_); rintro e w' ⟨rfl, ⟨n, rfl⟩⟩) | (go_at_call 59; (with_reducible refine (type_c _ _).mono ?_); rintro e w' ⟨rfl, ⟨n, rfl⟩⟩) | (go_at_call 60; (with_reducible refine (contains_d HC.out (below_drewN2 _ _)).mono ?_); rintro e w' ⟨rfl, ⟨n, rfl⟩⟩))))
  all_goals
    have hk := HK.out
    try have h4 := H4.out
    try have h7 := H7.out
    go_ret
    refine ⟨ret_bool ?_, drawn_i _ rfl⟩
    unfold mayB
    rw [hk]
    clear hk
    first
      | (simp [mayA, mayC, mayN, mayT, mayL, mayI, sum_zero M6.out M7.out, *]; done)
      | (simp [mayA, mayC, mayN, mayT, mayL, mayI, sum_zero M6.out M7.out, *]; omega)
      | skip
set_option maxHeartbeats 4000000 in
set_option maxRecDepth 100000 in
theorem may_8 {w : World} {ad : Addr} {x : S44} {A5 A6 A7 : Option Addr} {c5 c6 c7 : Nat} (hk : ofF x.f0 = 8) (z0 : w.cell? ad = some (.int .i64 x.f0)) (z1 : w.cell? ⟨ad.block, ad.off + 1, none⟩ = some (.int .i64 x.f1)) (z2 : w.cell? ⟨ad.block, ad.off + 2, none⟩ = some (.int .i64 x.f2)) (z3 : w.cell? ⟨ad.block, ad.off + 3, none⟩ = some (.int .i64 x.f3)) (z4 : w.cell? ⟨ad.block, ad.off + 4, none⟩ = some (.int .i64 x.f4)) (z5 : w.cell? ⟨ad.block, ad.off + 5, none⟩ = some (.slice A5 x.f5.length c5)) (z6 : w.cell? ⟨ad.block, ad.off + 6, none⟩ = some (.slice A6 x.f6.length c6)) (z7 : w.cell? ⟨ad.block, ad.off + 7, none⟩ = some (.slice A7 x.f7.length c7)) (l5 : x.f5.length ≤ c5) (C5 : (Kd.int .i64).C w A5 x.f5.length x.f5) (m6 : x.f6.length ≤ 9223372036854775807) (m7 : x.f7.length ≤ 9223372036854775807) :
    Calls Try.prog 41 #[.pointer (some ad)] w fun e w' => e = .returned (.bool (mayB x)) ∧ Drawn0 w w' := by
  have HK := Aside0.mk hk
  have M6 := Aside0.mk m6
  have M7 := Aside0.mk m7
  have HC := Aside0.mk (And.intro C5 l5)
  clear m6 m7 C5 l5
  all_goals go_enter Try.func41, Try.ntmps41
  all_goals go_wp2_with (first | (go_at_call 40; (with_reducible refine (of_k hk _).mono ?_); rintro e w' ⟨rfl, ⟨n, rfl⟩⟩) | (go_at_call 57; (with_reducible refine (u32_c _ _).mono ?_); rintro e w' ⟨rfl, ⟨n, rfl⟩⟩) | (go_at_call 58; (with_reducible refine (wide_c _ _).mono ?_); rintro e w' ⟨rfl, ⟨n, rfl⟩⟩) | (go_at_call 59; (with_reducible refine (type_c _ _).mono ?_); rintro e w' ⟨rfl, ⟨n, rfl⟩⟩) | (go_at_call 60; (with_reducible refine (contains_d HC.out (below_drewN2 _ _)).mono ?_); rintro e w' ⟨rfl, ⟨n, rfl⟩⟩))
  repeat (any_goals (go_quiet ((go_at_call 57; exact quiet_d (u32_c _ _))); try go_wp2_with (first | (go_at_call 40; (with_reducible refine (of_k hk _).mono ?_); rintro e w' ⟨rfl, ⟨n, rfl⟩⟩) | (go_at_call 57; (with_reducible refine (u32_c _ _).mono ?_); rintro e w' ⟨rfl, ⟨n, rfl⟩⟩) | (go_at_call 58; (with_reducible refine (wide_c _ _).mono ?_); rintro e w' ⟨rfl, ⟨n, rfl⟩⟩) | (go_at_call 59; (with_reducible refine (type_c _ _).mono ?_); rintro e w' ⟨rfl, ⟨n, rfl⟩⟩) | (go_at_call 60; (with_reducible refine (contains_d HC.out (below_drewN2 _ _)).mono ?_); rintro e w' ⟨rfl, ⟨n, rfl⟩⟩))))
  all_goals
    have hk := HK.out
    try have h4 := H4.out
    try have h7 := H7.out
    go_ret
    refine ⟨ret_bool ?_, drawn_i _ rfl⟩
    unfold mayB
    rw [hk]
    clear hk
    first
      | (simp [mayA, mayC, mayN, mayT, mayL, mayI, sum_zero M6.out M7.out, *]; done)
      | (simp [mayA, mayC, mayN, mayT, mayL, mayI, sum_zero M6.out M7.out, *]; omega)
      | skip
set_option maxHeartbeats 4000000 in
set_option maxRecDepth 100000 in
theorem may_9 {w : World} {ad : Addr} {x : S44} {A5 A6 A7 : Option Addr} {c5 c6 c7 : Nat} (hk : ofF x.f0 = 9) (z0 : w.cell? ad = some (.int .i64 x.f0)) (z1 : w.cell? ⟨ad.block, ad.off + 1, none⟩ = some (.int .i64 x.f1)) (z2 : w.cell? ⟨ad.block, ad.off + 2, none⟩ = some (.int .i64 x.f2)) (z3 : w.cell? ⟨ad.block, ad.off + 3, none⟩ = some (.int .i64 x.f3)) (z4 : w.cell? ⟨ad.block, ad.off + 4, none⟩ = some (.int .i64 x.f4)) (z5 : w.cell? ⟨ad.block, ad.off + 5, none⟩ = some (.slice A5 x.f5.length c5)) (z6 : w.cell? ⟨ad.block, ad.off + 6, none⟩ = some (.slice A6 x.f6.length c6)) (z7 : w.cell? ⟨ad.block, ad.off + 7, none⟩ = some (.slice A7 x.f7.length c7)) (l5 : x.f5.length ≤ c5) (C5 : (Kd.int .i64).C w A5 x.f5.length x.f5) (m6 : x.f6.length ≤ 9223372036854775807) (m7 : x.f7.length ≤ 9223372036854775807) :
    Calls Try.prog 41 #[.pointer (some ad)] w fun e w' => e = .returned (.bool (mayB x)) ∧ Drawn0 w w' := by
  have HK := Aside0.mk hk
  have M6 := Aside0.mk m6
  have M7 := Aside0.mk m7
  have HC := Aside0.mk (And.intro C5 l5)
  clear m6 m7 C5 l5
  all_goals go_enter Try.func41, Try.ntmps41
  all_goals go_wp2_with (first | (go_at_call 40; (with_reducible refine (of_k hk _).mono ?_); rintro e w' ⟨rfl, ⟨n, rfl⟩⟩) | (go_at_call 57; (with_reducible refine (u32_c _ _).mono ?_); rintro e w' ⟨rfl, ⟨n, rfl⟩⟩) | (go_at_call 58; (with_reducible refine (wide_c _ _).mono ?_); rintro e w' ⟨rfl, ⟨n, rfl⟩⟩) | (go_at_call 59; (with_reducible refine (type_c _ _).mono ?_); rintro e w' ⟨rfl, ⟨n, rfl⟩⟩) | (go_at_call 60; (with_reducible refine (contains_d HC.out (below_drewN2 _ _)).mono ?_); rintro e w' ⟨rfl, ⟨n, rfl⟩⟩))
  repeat (any_goals (go_quiet ((go_at_call 57; exact quiet_d (u32_c _ _))); try go_wp2_with (first | (go_at_call 40; (with_reducible refine (of_k hk _).mono ?_); rintro e w' ⟨rfl, ⟨n, rfl⟩⟩) | (go_at_call 57; (with_reducible refine (u32_c _ _).mono ?_); rintro e w' ⟨rfl, ⟨n, rfl⟩⟩) | (go_at_call 58; (with_reducible refine (wide_c _ _).mono ?_); rintro e w' ⟨rfl, ⟨n, rfl⟩⟩) | (go_at_call 59; (with_reducible refine (type_c _ _).mono ?_); rintro e w' ⟨rfl, ⟨n, rfl⟩⟩) | (go_at_call 60; (with_reducible refine (contains_d HC.out (below_drewN2 _ _)).mono ?_); rintro e w' ⟨rfl, ⟨n, rfl⟩⟩))))
  all_goals
    have hk := HK.out
    try have h4 := H4.out
    try have h7 := H7.out
    go_ret
    refine ⟨ret_bool ?_, drawn_i _ rfl⟩
    unfold mayB
    rw [hk]
    clear hk
    first
      | (simp [mayA, mayC, mayN, mayT, mayL, mayI, sum_zero M6.out M7.out, *]; done)
      | (simp [mayA, mayC, mayN, mayT, mayL, mayI, sum_zero M6.out M7.out, *]; omega)
      | skip
theorem may_c {w : World} {ad : Addr} {x : S44} {A5 A6 A7 : Option Addr} {c5 c6 c7 : Nat} (z0 : w.cell? ad = some (.int .i64 x.f0)) (z1 : w.cell? ⟨ad.block, ad.off + 1, none⟩ = some (.int .i64 x.f1)) (z2 : w.cell? ⟨ad.block, ad.off + 2, none⟩ = some (.int .i64 x.f2)) (z3 : w.cell? ⟨ad.block, ad.off + 3, none⟩ = some (.int .i64 x.f3)) (z4 : w.cell? ⟨ad.block, ad.off + 4, none⟩ = some (.int .i64 x.f4)) (z5 : w.cell? ⟨ad.block, ad.off + 5, none⟩ = some (.slice A5 x.f5.length c5)) (z6 : w.cell? ⟨ad.block, ad.off + 6, none⟩ = some (.slice A6 x.f6.length c6)) (z7 : w.cell? ⟨ad.block, ad.off + 7, none⟩ = some (.slice A7 x.f7.length c7)) (l5 : x.f5.length ≤ c5) (C5 : (Kd.int .i64).C w A5 x.f5.length x.f5) (m6 : x.f6.length ≤ 9223372036854775807) (m7 : x.f7.length ≤ 9223372036854775807) :
    Calls Try.prog 41 #[.pointer (some ad)] w fun e w' => e = .returned (.bool (mayB x)) ∧ Drawn0 w w' := by
  rcases ofF_range x.f0 with hk | hk | hk | hk | hk | hk | hk | hk | hk | hk
  · exact may_0 hk z0 z1 z2 z3 z4 z5 z6 z7 l5 C5 m6 m7
  · exact may_1 hk z0 z1 z2 z3 z4 z5 z6 z7 l5 C5 m6 m7
  · exact may_2 hk z0 z1 z2 z3 z4 z5 z6 z7 l5 C5 m6 m7
  · exact may_3 hk z0 z1 z2 z3 z4 z5 z6 z7 l5 C5 m6 m7
  · exact may_4 hk z0 z1 z2 z3 z4 z5 z6 z7 l5 C5 m6 m7
  · exact may_5 hk z0 z1 z2 z3 z4 z5 z6 z7 l5 C5 m6 m7
  · exact may_6 hk z0 z1 z2 z3 z4 z5 z6 z7 l5 C5 m6 m7
  · exact may_7 hk z0 z1 z2 z3 z4 z5 z6 z7 l5 C5 m6 m7
  · exact may_8 hk z0 z1 z2 z3 z4 z5 z6 z7 l5 C5 m6 m7
  · exact may_9 hk z0 z1 z2 z3 z4 z5 z6 z7 l5 C5 m6 m7
end Go.Proofs.Ytbekfmeaeaghpaa.EInstr
namespace Go.Proofs.Ytbekfmeaeaghpaa.ESame
open Go Go.RowKit Go.Proofs.Ytbekfmeaeaghpaa.F Go.Proofs.YtbekfmeaeaghpaaW.Hand Go.Proofs.YtbekfmeaeaghpaaW.PrintWords Go.Proofs.YtbekfmeaeaghpaaW.PrintLast Go.Proofs.YtbekfmeaeaghpaaW.PrintMore
set_option linter.unusedVariables false
set_option linter.unusedSimpArgs false
theorem sameInts_run (l : List Int) (hl : l.length ≤ 9223372036854775807) : ∀ d i, i + d = l.length → peloruslaw0_SameInts.l0 (d + 1) l l (i : Int) = some true := by
  intro d
  induction d with
  | zero =>
    intro i hi
    rw [peloruslaw0_SameInts.l0, if_neg (by omega)]
  | succ d ih =>
    intro i hi
    rw [peloruslaw0_SameInts.l0, if_pos (by omega), if_pos (by omega), if_pos (by omega), if_pos rfl, show wrap64 ((i : Int) + 1) = ((i + 1 : Nat) : Int) by unfold wrap64; omega]
    exact ih (i + 1) (by omega)
theorem sameInts_eq {w : World} {A B : Option Addr} {c d : Nat} {l : List Int} (hA : (Kd.int .i64).C w A l.length l) (hc : l.length ≤ c) (hB : (Kd.int .i64).C w B l.length l) (hd : l.length ≤ d) :
    Calls Try.prog 24 #[.slice A l.length c, .slice B l.length d] w fun e w' => e = .returned (.bool true) ∧ Below w.heap.size w w' :=
  (peloruslaw0_SameInts.calls (l.length + 1) A c l B d l true w hA hc hB hd (by unfold peloruslaw0_SameInts.f; rw [if_pos rfl]; exact sameInts_run l (Kd.C_max hA) l.length 0 (by omega))).mono fun e w' h => ⟨h.1, h.2.below⟩
theorem rd44_mem {is : List S44} {i : Nat} (h : i < is.length) : rd_T44 is (i : Int) ∈ is := by
  unfold rd_T44
  rw [Int.toNat_natCast, List.getD_eq_getElem?_getD, List.getElem?_eq_getElem h]
  exact List.getElem_mem h
theorem size44 (x : S44) : SizeOf.sizeOf x.f6 < SizeOf.sizeOf x ∧ SizeOf.sizeOf x.f7 < SizeOf.sizeOf x := by
  cases x
  simp only [S44.mk.sizeOf_spec]
  omega
/-- No list in the tree is longer than any slice may be. -/
def RelS (w : World) (N n : Nat) (v5 : Value) (wr : World) : Prop := ∃ i : Nat, i + n = N ∧ v5 = .int .i64 i ∧ Below w.heap.size w wr
set_option maxHeartbeats 16000000 in
set_option maxRecDepth 100000 in
theorem same_size : ∀ (n : Nat) (is : List S44), SizeOf.sizeOf is ≤ n → ∀ (w : World) {A B : Option Addr} {c d : Nat}, k44.C w A is.length is → is.length ≤ c → k44.C w B is.length is → is.length ≤ d →
    Calls Try.prog 19 #[.slice A is.length c, .slice B is.length d] w fun e w' => e = .returned (.bool true) ∧ Below w.heap.size w w' := by
  intro n
  induction n with
  | zero =>
    intro is hn
    cases is <;> simp at hn
  | succ n ih =>
  intro is hn w A B c d hA hc hB hd
  have HA := Aside0.mk hA
  have HB := Aside0.mk hB
  have HN := Aside0.mk hn
  have hmax : is.length ≤ 9223372036854775807 := Kd.C_max hA
  clear hA hB hn
  go_enter Try.func19, Try.ntmps19
  go_wp2
  go_loopg [5] is.length (fun n v5 wr => RelS w is.length n v5 wr)
  case atStart => first | exact ⟨0, by omega, rfl, Below.refl _ _⟩ | exact ⟨0, by omega, rfl, below_drew (Below.refl _ _)⟩
  case round =>
    obtain ⟨i, hi, rfl, hb⟩ := hrel
    have I1 := Aside0.mk hi
    have HY0 := Aside0.mk hb
    clear hi hb
    by_cases hlt : i < is.length
    · have dl : decide (i < is.length) = true := decide_eq_true hlt
      have dl2 : decide ((i : Int) < (is.length : Int)) = true := decide_eq_true (by omega)
      have hi0 : (0 : Int) ≤ (i : Int) := by omega
      have w1 : wrap64 ((i : Int) + 1) = (i : Int) + 1 := by unfold wrap64; omega
      have HLT := Aside0.mk hlt
      obtain ⟨ad, A5, a5c, A6, a6c, A7, a7c, eA, a0, a1, a2, a3, a4, a5, a6, a7, l5, C5, l6, C6, l7, C7⟩ := at_T44 (Kd.C_below HA.out HY0.out) (i : Int) (by omega) (by omega)
      obtain ⟨bd, B5, b5c, B6, b6c, B7, b7c, eB, b0, b1, b2, b3, b4, b5, b6, b7, m5, D5, m6, D6, m7, D7⟩ := at_T44 (Kd.C_below HB.out HY0.out) (i : Int) (by omega) (by omega)
      subst eA eB
      have hsz : SizeOf.sizeOf (rd_T44 is (i : Int)) < SizeOf.sizeOf is := List.sizeOf_lt_of_mem (rd44_mem hlt)
      have hs6 := size44 (rd_T44 is (i : Int))
      have SZ0 : SizeOf.sizeOf (rd_T44 is (i : Int)).f6 ≤ n ∧ SizeOf.sizeOf (rd_T44 is (i : Int)).f7 ≤ n := by have := HN.out; omega
      clear hsz hs6
      generalize rd_T44 is (i : Int) = x at *
      simp only [Int.toNat_natCast] at a0 a1 a2 a3 a4 a5 a6 a7 b0 b1 b2 b3 b4 b5 b6 b7
      have SZ := Aside0.mk SZ0
      have C5' := C5; have C6' := C6; have C7' := C7; have D5' := D5; have D6' := D6; have D7' := D7
      clear C5 C6 C7 D5 D6 D7 SZ0
      have C5 := Aside0.mk C5'
      have C6 := Aside0.mk C6'
      have C7 := Aside0.mk C7'
      have D5 := Aside0.mk D5'
      have D6 := Aside0.mk D6'
      have D7 := Aside0.mk D7'
      clear C5' C6' C7' D5' D6' D7'
      go_wp2
      refine start_ (n := 12) (S := fun w' => w'.cell? (ad.add (i * 8)) = some (.int .i64 x.f0) ∧ w'.cell? ⟨(ad.add (i * 8)).block, (ad.add (i * 8)).off + 1, none⟩ = some (.int .i64 x.f1) ∧ w'.cell? ⟨(ad.add (i * 8)).block, (ad.add (i * 8)).off + 2, none⟩ = some (.int .i64 x.f2) ∧ w'.cell? ⟨(ad.add (i * 8)).block, (ad.add (i * 8)).off + 3, none⟩ = some (.int .i64 x.f3) ∧ w'.cell? ⟨(ad.add (i * 8)).block, (ad.add (i * 8)).off + 4, none⟩ = some (.int .i64 x.f4) ∧ w'.cell? ⟨(ad.add (i * 8)).block, (ad.add (i * 8)).off + 5, none⟩ = some (.slice A5 x.f5.length a5c) ∧ w'.cell? ⟨(ad.add (i * 8)).block, (ad.add (i * 8)).off + 6, none⟩ = some (.slice A6 x.f6.length a6c) ∧ w'.cell? ⟨(ad.add (i * 8)).block, (ad.add (i * 8)).off + 7, none⟩ = some (.slice A7 x.f7.length a7c) ∧ w'.cell? (bd.add (i * 8)) = some (.int .i64 x.f0) ∧ w'.cell? ⟨(bd.add (i * 8)).block, (bd.add (i * 8)).off + 1, none⟩ = some (.int .i64 x.f1) ∧ w'.cell? ⟨(bd.add (i * 8)).block, (bd.add (i * 8)).off + 2, none⟩ = some (.int .i64 x.f2) ∧ w'.cell? ⟨(bd.add (i * 8)).block, (bd.add (i * 8)).off + 3, none⟩ = some (.int .i64 x.f3) ∧ w'.cell? ⟨(bd.add (i * 8)).block, (bd.add (i * 8)).off + 4, none⟩ = some (.int .i64 x.f4) ∧ w'.cell? ⟨(bd.add (i * 8)).block, (bd.add (i * 8)).off + 5, none⟩ = some (.slice B5 x.f5.length b5c) ∧ w'.cell? ⟨(bd.add (i * 8)).block, (bd.add (i * 8)).off + 6, none⟩ = some (.slice B6 x.f6.length b6c) ∧ w'.cell? ⟨(bd.add (i * 8)).block, (bd.add (i * 8)).off + 7, none⟩ = some (.slice B7 x.f7.length b7c)) (ds := [11]) #[false, false, false, false, false, false, false, false, false, false, false, false] (by kernel_rfl) rfl rfl ⟨a0, a1, a2, a3, a4, a5, a6, a7, b0, b1, b2, b3, b4, b5, b6, b7⟩ (fun hHeld => ?_)
      refine pure_ (i := 0) (N := some 19) (v := ?_) (a' := ?_) #[true, false, false, false, false, false, false, false, false, false, false, false] rfl rfl (by kernel_rfl) (fun _ _ _ h => h) (Or.inl ⟨by rfl, ?_⟩) ?_ ?_
      rotate_left
      · intro w'
        go_simp
        with_reducible rfl
      rotate_left
      · simp only [Act.put, List.setIfInBounds_toArray, List.set_cons_zero, List.set_cons_succ, i64_w, i32_w]
        rfl
      refine pure_ (i := 1) (N := some 20) (v := ?_) (a' := ?_) #[true, true, false, false, false, false, false, false, false, false, false, false] rfl rfl (by kernel_rfl) (fun _ _ _ h => h) (Or.inl ⟨by rfl, ?_⟩) ?_ ?_
      rotate_left
      · intro w'
        go_simp
        with_reducible rfl
      rotate_left
      · simp only [Act.put, List.setIfInBounds_toArray, List.set_cons_zero, List.set_cons_succ, i64_w, i32_w]
        rfl
      refine pure_ (i := 2) (N := some 21) (v := ?_) (a' := ?_) #[true, true, true, false, false, false, false, false, false, false, false, false] rfl rfl (by kernel_rfl) (fun _ _ _ h => h) (Or.inl ⟨by rfl, ?_⟩) ?_ ?_
      rotate_left
      · intro w'
        go_simp
        with_reducible rfl
      rotate_left
      · simp only [Act.put, List.setIfInBounds_toArray, List.set_cons_zero, List.set_cons_succ, i64_w, i32_w]
        rfl
      refine pure_ (i := 4) (N := some 23) (v := ?_) (a' := ?_) #[true, true, true, false, true, false, false, false, false, false, false, false] rfl rfl (by kernel_rfl) (fun _ _ _ h => h) (Or.inl ⟨by rfl, ?_⟩) ?_ ?_
      rotate_left
      · intro w'
        go_simp
        with_reducible rfl
      rotate_left
      · simp only [Act.put, List.setIfInBounds_toArray, List.set_cons_zero, List.set_cons_succ, i64_w, i32_w]
        rfl
      refine pure_ (i := 5) (N := some 24) (v := ?_) (a' := ?_) #[true, true, true, false, true, true, false, false, false, false, false, false] rfl rfl (by kernel_rfl) (fun _ _ _ h => h) (Or.inl ⟨by rfl, ?_⟩) ?_ ?_
      rotate_left
      · intro w'
        go_simp
        with_reducible rfl
      rotate_left
      · simp only [Act.put, List.setIfInBounds_toArray, List.set_cons_zero, List.set_cons_succ, i64_w, i32_w]
        rfl
      refine pure_ (i := 6) (N := some 25) (v := ?_) (a' := ?_) #[true, true, true, false, true, true, true, false, false, false, false, false] rfl rfl (by kernel_rfl) (fun _ _ _ h => h) (Or.inl ⟨by rfl, ?_⟩) ?_ ?_
      rotate_left
      · intro w'
        go_simp
        with_reducible rfl
      rotate_left
      · simp only [Act.put, List.setIfInBounds_toArray, List.set_cons_zero, List.set_cons_succ, i64_w, i32_w]
        rfl
      refine take_ (i := 3) (N := some 22) (v := ?_) (a' := ?_) #[true, true, true, true, true, true, true, false, false, false, false, false] rfl rfl (by kernel_rfl) (fun _ _ _ h => h) (Or.inl ⟨by rfl, ?_⟩) hHeld ?_ ?_
      rotate_left
      · rintro w' ⟨s0, s1, s2, s3, s4, s5, s6, s7, s8, s9, s10, s11, s12, s13, s14, s15⟩
        go_simp
        with_reducible rfl
      rotate_left
      · simp only [Act.put, List.setIfInBounds_toArray, List.set_cons_zero, List.set_cons_succ, i64_w, i32_w]
        rfl
      refine take_ (i := 7) (N := some 26) (v := ?_) (a' := ?_) #[true, true, true, true, true, true, true, true, false, false, false, false] rfl rfl (by kernel_rfl) (fun _ _ _ h => h) (Or.inl ⟨by rfl, ?_⟩) hHeld ?_ ?_
      rotate_left
      · rintro w' ⟨s0, s1, s2, s3, s4, s5, s6, s7, s8, s9, s10, s11, s12, s13, s14, s15⟩
        go_simp
        with_reducible rfl
      rotate_left
      · simp only [Act.put, List.setIfInBounds_toArray, List.set_cons_zero, List.set_cons_succ, i64_w, i32_w]
        rfl
      refine join_ (σ := Nat × Nat) 2 #[true, true, true, true, true, true, true, true, true, true, false, false] (fun s => [(6, .pointer (some ⟨s.1, 0, none⟩)), (7, .pointer (some ⟨s.2, 0, none⟩))]) (fun s W => W.heap[s.1]? = some (.cells #[.int .i64 0, .int .i64 0, .int .i64 0, .int .i64 0, .int .i64 0, .slice none 0 0, .slice none 0 0, .slice none 0 0] 44 (0, 0)) ∧ W.heap[s.2]? = some (.cells #[.int .i64 0, .int .i64 0, .int .i64 0, .int .i64 0, .int .i64 0, .slice none 0 0, .slice none 0 0, .slice none 0 0] 44 (0, 0)) ∧ wr.heap.size ≤ s.1 ∧ wr.heap.size ≤ s.2 ∧ s.1 ≠ s.2 ∧ Below wr.heap.size wr W) ?_ ?_
      rotate_left
      · intro hCont
        refine two_ (i := 8) (j := 9) (Ni := some 6) (Nj := some 7) #[true, true, true, true, true, true, true, true, true, false, false, false] #[true, true, true, true, true, true, true, true, false, true, false, false] rfl rfl rfl rfl (by kernel_rfl) (by decide) (by decide) (fun K hK => ?_) (fun K hK => ?_)
        · skip
          refine boxg_step ?hw (N := 6) ?hd (cs := #[.int .i64 0, .int .i64 0, .int .i64 0, .int .i64 0, .int .i64 0, .slice none 0 0, .slice none 0 0, .slice none 0 0]) (t := 44) ?hr ?_
          case hw => rfl
          case hd => rfl
          case hr => first | (go_simp; done) | (go_simp; rfl)
          intro ga hgga wa hA hb
          have H1 := Aside0.mk hA
          have HY1 : Aside0 (Below wr.heap.size wr wa) := ⟨below_step (below_drew (Below.refl _ _)) hb⟩
          have G1 : Aside0 (wr.heap.size ≤ ga) := ⟨by rw [hgga]; exact Nat.le_refl _⟩
          clear hA hb hgga
          refine hK.out _ _ ⟨pw_cell_below HY1.out a0, pw_cell_below HY1.out a1, pw_cell_below HY1.out a2, pw_cell_below HY1.out a3, pw_cell_below HY1.out a4, pw_cell_below HY1.out a5, pw_cell_below HY1.out a6, pw_cell_below HY1.out a7, pw_cell_below HY1.out b0, pw_cell_below HY1.out b1, pw_cell_below HY1.out b2, pw_cell_below HY1.out b3, pw_cell_below HY1.out b4, pw_cell_below HY1.out b5, pw_cell_below HY1.out b6, pw_cell_below HY1.out b7⟩ (fun hHeld => ?_)
          clear hK K
          refine norm_ (a' := ?_) ?_ ?_
          rotate_left
          · show Act.put _ (some 6) _ = _
            simp only [Act.put, List.setIfInBounds_toArray, List.set_cons_zero, List.set_cons_succ, i64_w, i32_w]
            rfl
          refine one_ (i := 9) (N := some 7) #[true, true, true, true, true, true, true, true, true, true, false, false] rfl rfl (by kernel_rfl) (by decide) (fun K hK => ?_)
          refine boxg_step ?hw (N := 7) ?hd (cs := #[.int .i64 0, .int .i64 0, .int .i64 0, .int .i64 0, .int .i64 0, .slice none 0 0, .slice none 0 0, .slice none 0 0]) (t := 44) ?hr ?_
          case hw => rfl
          case hd => rfl
          case hr => first | (go_simp; done) | (go_simp; rfl)
          intro gb hggb wb hA hb
          have H2 := Aside0.mk hA
          have HY2 : Aside0 (Below wr.heap.size wr wb) := ⟨below_step HY1.out hb⟩
          have G2 : Aside0 (wr.heap.size ≤ gb) := ⟨by rw [hggb]; exact HY1.out.size⟩
          have H3 := Aside0.mk (blk_below H1.out hb)
          have NE : Aside0 (ga ≠ gb) := ⟨by have := blk_lt H1.out; omega⟩
          clear hA hb hggb
          refine hK.out _ _ ⟨pw_cell_below HY2.out a0, pw_cell_below HY2.out a1, pw_cell_below HY2.out a2, pw_cell_below HY2.out a3, pw_cell_below HY2.out a4, pw_cell_below HY2.out a5, pw_cell_below HY2.out a6, pw_cell_below HY2.out a7, pw_cell_below HY2.out b0, pw_cell_below HY2.out b1, pw_cell_below HY2.out b2, pw_cell_below HY2.out b3, pw_cell_below HY2.out b4, pw_cell_below HY2.out b5, pw_cell_below HY2.out b6, pw_cell_below HY2.out b7⟩ (fun hHeld => ?_)
          clear hK K
          refine norm_ (a' := ?_) ?_ ?_
          rotate_left
          · show Act.put _ (some 7) _ = _
            simp only [Act.put, List.setIfInBounds_toArray, List.set_cons_zero, List.set_cons_succ, i64_w, i32_w]
            rfl
          exact norm_ (by simp only [putAll, Act.put, List.setIfInBounds_toArray, List.set_cons_zero, List.set_cons_succ]) (hCont (ga, gb) _ ⟨H3.out, H2.out, G1.out, G2.out, NE.out, HY2.out⟩)
        · skip
          refine boxg_step ?hw (N := 7) ?hd (cs := #[.int .i64 0, .int .i64 0, .int .i64 0, .int .i64 0, .int .i64 0, .slice none 0 0, .slice none 0 0, .slice none 0 0]) (t := 44) ?hr ?_
          case hw => rfl
          case hd => rfl
          case hr => first | (go_simp; done) | (go_simp; rfl)
          intro gb hggb wa hA hb
          have H1 := Aside0.mk hA
          have HY1 : Aside0 (Below wr.heap.size wr wa) := ⟨below_step (below_drew (Below.refl _ _)) hb⟩
          have G1 : Aside0 (wr.heap.size ≤ gb) := ⟨by rw [hggb]; exact Nat.le_refl _⟩
          clear hA hb hggb
          refine hK.out _ _ ⟨pw_cell_below HY1.out a0, pw_cell_below HY1.out a1, pw_cell_below HY1.out a2, pw_cell_below HY1.out a3, pw_cell_below HY1.out a4, pw_cell_below HY1.out a5, pw_cell_below HY1.out a6, pw_cell_below HY1.out a7, pw_cell_below HY1.out b0, pw_cell_below HY1.out b1, pw_cell_below HY1.out b2, pw_cell_below HY1.out b3, pw_cell_below HY1.out b4, pw_cell_below HY1.out b5, pw_cell_below HY1.out b6, pw_cell_below HY1.out b7⟩ (fun hHeld => ?_)
          clear hK K
          refine norm_ (a' := ?_) ?_ ?_
          rotate_left
          · show Act.put _ (some 7) _ = _
            simp only [Act.put, List.setIfInBounds_toArray, List.set_cons_zero, List.set_cons_succ, i64_w, i32_w]
            rfl
          refine one_ (i := 8) (N := some 6) #[true, true, true, true, true, true, true, true, true, true, false, false] rfl rfl (by kernel_rfl) (by decide) (fun K hK => ?_)
          refine boxg_step ?hw (N := 6) ?hd (cs := #[.int .i64 0, .int .i64 0, .int .i64 0, .int .i64 0, .int .i64 0, .slice none 0 0, .slice none 0 0, .slice none 0 0]) (t := 44) ?hr ?_
          case hw => rfl
          case hd => rfl
          case hr => first | (go_simp; done) | (go_simp; rfl)
          intro ga hgga wb hA hb
          have H2 := Aside0.mk hA
          have HY2 : Aside0 (Below wr.heap.size wr wb) := ⟨below_step HY1.out hb⟩
          have G2 : Aside0 (wr.heap.size ≤ ga) := ⟨by rw [hgga]; exact HY1.out.size⟩
          have H3 := Aside0.mk (blk_below H1.out hb)
          have NE : Aside0 (ga ≠ gb) := ⟨by have := blk_lt H1.out; omega⟩
          clear hA hb hgga
          refine hK.out _ _ ⟨pw_cell_below HY2.out a0, pw_cell_below HY2.out a1, pw_cell_below HY2.out a2, pw_cell_below HY2.out a3, pw_cell_below HY2.out a4, pw_cell_below HY2.out a5, pw_cell_below HY2.out a6, pw_cell_below HY2.out a7, pw_cell_below HY2.out b0, pw_cell_below HY2.out b1, pw_cell_below HY2.out b2, pw_cell_below HY2.out b3, pw_cell_below HY2.out b4, pw_cell_below HY2.out b5, pw_cell_below HY2.out b6, pw_cell_below HY2.out b7⟩ (fun hHeld => ?_)
          clear hK K
          refine norm_ (a' := ?_) ?_ ?_
          rotate_left
          · show Act.put _ (some 6) _ = _
            simp only [Act.put, List.setIfInBounds_toArray, List.set_cons_zero, List.set_cons_succ, i64_w, i32_w]
            rfl
          exact norm_ (by simp only [putAll, Act.put, List.setIfInBounds_toArray, List.set_cons_zero, List.set_cons_succ]) (hCont (ga, gb) _ ⟨H2.out, H3.out, G2.out, G1.out, NE.out, HY2.out⟩)
      rintro ⟨ga, gb⟩ w3 ⟨h1, h2, h3, h4, h5, h6⟩
      have K1 := Aside0.mk h1
      have K2 := Aside0.mk h2
      have G1 := Aside0.mk h3
      have G2 := Aside0.mk h4
      have NE := Aside0.mk h5
      have HY := Aside0.mk h6
      clear h1 h2 h3 h4 h5 h6
      refine norm_ (a' := ?_) ?_ ?_
      rotate_left
      · simp only [putAll, Act.put, List.setIfInBounds_toArray, List.set_cons_zero, List.set_cons_succ]
        rfl
      refine one_ (i := 10) (N := none) #[true, true, true, true, true, true, true, true, true, true, true, false] rfl rfl (by kernel_rfl) (by decide) (fun K hK => ?_)
      refine storeRow_step (g := ga) (by rfl) rfl rfl (cs := #[.int .i64 x.f0, .int .i64 x.f1, .int .i64 x.f2, .int .i64 x.f3, .int .i64 x.f4, .slice A5 x.f5.length a5c, .slice A6 x.f6.length a6c, .slice A7 x.f7.length a7c]) rfl rfl K1.out (by kernel_rfl) rfl (by simp [Value.oneCell']) ?_
      intro w4 hA hb ho hs
      have K3 := Aside0.mk hA
      have HY4 := Aside0.mk (hb _ _ G1.out HY.out)
      have K4 := Aside0.mk ((ho gb (Ne.symm NE.out)).trans K2.out)
      clear hA hb ho hs K1 K2
      refine hK.out _ _ ⟨pw_cell_below HY4.out a0, pw_cell_below HY4.out a1, pw_cell_below HY4.out a2, pw_cell_below HY4.out a3, pw_cell_below HY4.out a4, pw_cell_below HY4.out a5, pw_cell_below HY4.out a6, pw_cell_below HY4.out a7, pw_cell_below HY4.out b0, pw_cell_below HY4.out b1, pw_cell_below HY4.out b2, pw_cell_below HY4.out b3, pw_cell_below HY4.out b4, pw_cell_below HY4.out b5, pw_cell_below HY4.out b6, pw_cell_below HY4.out b7⟩ (fun hHeld => ?_)
      clear hK K
      refine last_ (i := 11) (N := none) #[true, true, true, true, true, true, true, true, true, true, true, true] rfl rfl (by kernel_rfl) (by decide) (fun K hK => ?_)
      refine storeRow_step (g := gb) (by rfl) rfl rfl (cs := #[.int .i64 x.f0, .int .i64 x.f1, .int .i64 x.f2, .int .i64 x.f3, .int .i64 x.f4, .slice B5 x.f5.length b5c, .slice B6 x.f6.length b6c, .slice B7 x.f7.length b7c]) rfl rfl K4.out (by kernel_rfl) rfl (by simp [Value.oneCell']) ?_
      intro w5 hA hb ho hs
      have HY5 := Aside0.mk (hb _ _ G2.out HY4.out)
      have p0 : w5.cell? ⟨ga, 0, none⟩ = some (.int .i64 x.f0) := (blk_cell ((ho ga NE.out).trans K3.out) 0)
      have p1 : w5.cell? ⟨ga, 1, none⟩ = some (.int .i64 x.f1) := (blk_cell ((ho ga NE.out).trans K3.out) 1)
      have p2 : w5.cell? ⟨ga, 2, none⟩ = some (.int .i64 x.f2) := (blk_cell ((ho ga NE.out).trans K3.out) 2)
      have p3 : w5.cell? ⟨ga, 3, none⟩ = some (.int .i64 x.f3) := (blk_cell ((ho ga NE.out).trans K3.out) 3)
      have p4 : w5.cell? ⟨ga, 4, none⟩ = some (.int .i64 x.f4) := (blk_cell ((ho ga NE.out).trans K3.out) 4)
      have p5 : w5.cell? ⟨ga, 5, none⟩ = some (.slice A5 x.f5.length a5c) := (blk_cell ((ho ga NE.out).trans K3.out) 5)
      have p6 : w5.cell? ⟨ga, 6, none⟩ = some (.slice A6 x.f6.length a6c) := (blk_cell ((ho ga NE.out).trans K3.out) 6)
      have p7 : w5.cell? ⟨ga, 7, none⟩ = some (.slice A7 x.f7.length a7c) := (blk_cell ((ho ga NE.out).trans K3.out) 7)
      have q0 : w5.cell? ⟨gb, 0, none⟩ = some (.int .i64 x.f0) := blk_cell hA 0
      have q1 : w5.cell? ⟨gb, 1, none⟩ = some (.int .i64 x.f1) := blk_cell hA 1
      have q2 : w5.cell? ⟨gb, 2, none⟩ = some (.int .i64 x.f2) := blk_cell hA 2
      have q3 : w5.cell? ⟨gb, 3, none⟩ = some (.int .i64 x.f3) := blk_cell hA 3
      have q4 : w5.cell? ⟨gb, 4, none⟩ = some (.int .i64 x.f4) := blk_cell hA 4
      have q5 : w5.cell? ⟨gb, 5, none⟩ = some (.slice B5 x.f5.length b5c) := blk_cell hA 5
      have q6 : w5.cell? ⟨gb, 6, none⟩ = some (.slice B6 x.f6.length b6c) := blk_cell hA 6
      have q7 : w5.cell? ⟨gb, 7, none⟩ = some (.slice B7 x.f7.length b7c) := blk_cell hA 7
      clear hA hb ho hs K3 K4 HY4
      refine hK.out _ _ ?_
      clear hK K
      refine done_ (by kernel_rfl) ?_

      go_wp2_with (first
        | (go_at_call 24; (with_reducible refine (sameInts_eq (Kd.C_below C5.out HY5.out) l5 (Kd.C_below D5.out HY5.out) m5).mono ?_); rintro e w6 ⟨rfl, hb⟩; have HY6 := Aside0.mk (below_step HY5.out hb); have p6' : w6.cell? ⟨ga, 6, none⟩ = some (.slice A6 x.f6.length a6c) := pw_cell_below hb p6; have p7' : w6.cell? ⟨ga, 7, none⟩ = some (.slice A7 x.f7.length a7c) := pw_cell_below hb p7; have q6' : w6.cell? ⟨gb, 6, none⟩ = some (.slice B6 x.f6.length b6c) := pw_cell_below hb q6; have q7' : w6.cell? ⟨gb, 7, none⟩ = some (.slice B7 x.f7.length b7c) := pw_cell_below hb q7; clear p6 p7 q6 q7; have p6 := p6'; have p7 := p7'; have q6 := q6'; have q7 := q7'; clear p6' p7' q6' q7'; clear hb HY5)
        | (go_at_call 19; (with_reducible refine (ih x.f6 (by have := SZ.out; omega) w6 (Kd.C_below C6.out HY6.out) l6 (Kd.C_below D6.out HY6.out) m6).mono ?_); rintro e w7 ⟨rfl, hb⟩; have HY7 := Aside0.mk (below_step HY6.out hb); have p6' : w7.cell? ⟨ga, 6, none⟩ = some (.slice A6 x.f6.length a6c) := pw_cell_below hb p6; have p7' : w7.cell? ⟨ga, 7, none⟩ = some (.slice A7 x.f7.length a7c) := pw_cell_below hb p7; have q6' : w7.cell? ⟨gb, 6, none⟩ = some (.slice B6 x.f6.length b6c) := pw_cell_below hb q6; have q7' : w7.cell? ⟨gb, 7, none⟩ = some (.slice B7 x.f7.length b7c) := pw_cell_below hb q7; clear p6 p7 q6 q7; have p6 := p6'; have p7 := p7'; have q6 := q6'; have q7 := q7'; clear p6' p7' q6' q7'; clear hb HY6)
        | (go_at_call 19; (with_reducible refine (ih x.f7 (by have := SZ.out; omega) w7 (Kd.C_below C7.out HY7.out) l7 (Kd.C_below D7.out HY7.out) m7).mono ?_); rintro e w8 ⟨rfl, hb⟩; have HY8 := Aside0.mk (below_step HY7.out hb); clear hb HY7))
      go_roundg (is.length - (i + 1))
      case measure => have := I1.out; have := HLT.out; omega
      case rel => exact ⟨i + 1, by have := HLT.out; omega, by go_num, below_step HY0.out HY8.out⟩
    · have dl : decide (i < is.length) = false := decide_eq_false hlt
      have dl2 : decide ((i : Int) < (is.length : Int)) = false := decide_eq_false (by omega)
      go_wp2
      go_ret
      exact ⟨rfl, HY0.out⟩
end Go.Proofs.Ytbekfmeaeaghpaa.ESame
