/-
  instr.may: may an instruction be, but for those within it?
-/
import Derived.Test.YtmofdpkddimmlaaEMay0
namespace Go.Proofs.Ytmofdpkddimmlaa.EInstr
open Go Go.RowKit Go.Proofs.Ytmofdpkddimmlaa.F Go.Proofs.YtmofdpkddimmlaaW.Hand Go.Proofs.YtmofdpkddimmlaaW.PrintWords Go.Proofs.YtmofdpkddimmlaaW.PrintLast Go.Proofs.YtmofdpkddimmlaaW.PrintMore
set_option linter.unusedVariables false
set_option linter.unusedSimpArgs false

def mayA (k : Int) (x : S106) : Bool := if k = 3 ∨ k = 5 ∨ k = 6 then u32B x.f1 else (x.f1 == 0)
def mayC (k : Int) (x : S106) : Bool := if k = 6 then u32B x.f2 else (x.f2 == 0)
def mayN (k : Int) (x : S106) : Bool := if (k = 8 ∨ k = 9) ∧ wideB x.f0 = false then u32B x.f3 else (decide (k = 8 ∨ k = 9) || (x.f3 == 0))
def mayT (k : Int) (x : S106) : Bool := if k = 2 then typeB x.f4 else (x.f4 == 0)
def mayL (k : Int) (x : S106) : Bool := if k = 4 then decide (1 ≤ x.f5.length ∧ x.f5.length ≤ 1024) && !anyNo x.f5 else decide (x.f5.length = 0)
def mayI (k : Int) (x : S106) : Bool := (decide (k = 2) && ((x.f0 == 4) || decide (x.f7.length = 0))) || decide (x.f6.length + x.f7.length = 0)
/-- May an instruction be, but for those within it? -/
def mayB (x : S106) : Bool := decide (ofF x.f0 ≠ 0) && mayA (ofF x.f0) x && mayC (ofF x.f0) x && mayN (ofF x.f0) x && mayT (ofF x.f0) x && mayL (ofF x.f0) x && mayI (ofF x.f0) x
theorem of_k {op k : Int} (h : ofF op = k) (w : World) : Calls Try.prog 76 #[.int .i64 op] w fun e w' => e = .returned (.int .i64 k) ∧ Drawn0 w w' := h ▸ of_c op w
theorem ret_bool {a b : Bool} (h : a = b) : Ending.returned (.bool a) = Ending.returned (.bool b) := by rw [h]
theorem below_drewN2 (w : World) (n : Nat) : Below w.heap.size w (w.drewN n) := pw_below_drewN (Below.refl _ _) n
theorem contains_d {w W : World} {A : Option Addr} {c : Nat} {l : List Int} (h : (Kd.int .i64).C w A l.length l ∧ l.length ≤ c) (hb : Below w.heap.size w W) :
    Calls Try.prog 60 #[.slice A l.length c, .func (.func 83) #[] #[]] W fun e w' => e = .returned (.bool (anyNo l)) ∧ Drawn0 W w' := contains_c (Kd.C_below h.1 hb) h.2
theorem sum_zero {a b : Nat} (ha : a ≤ 9223372036854775807) (hb : b ≤ 9223372036854775807) : (wrap64 ((a : Int) + (b : Int)) == 0) = decide (a + b = 0) := by
  rw [Bool.eq_iff_iff]
  simp only [beq_iff_eq, decide_eq_true_eq]
  unfold wrap64
  omega
theorem quiet_d {P : Program} {f : FuncId} {args : Array Value} {w : World} {a n : Nat} {v : Value} (h : Calls P f args (w.drewN (a + n)) fun e w' => e = .returned v ∧ Drawn0 (w.drewN (a + n)) w') :
    Calls P f args (w.drewN (a + n)) fun e w'' => e = .returned v ∧ ∃ m, w'' = w.drewN (a + m) :=
  h.mono fun _ _ ⟨he, ⟨⟨m, hm⟩⟩⟩ => ⟨he, n + m, by rw [hm, World.drewN_drewN, Nat.add_assoc]⟩
theorem drawn_i {w w' : World} (n : Nat) (h : w' = w.drewN n) : Drawn0 w w' := ⟨⟨n, h⟩⟩
theorem ofF_range (op : Int) : ofF op = 0 ∨ ofF op = 1 ∨ ofF op = 2 ∨ ofF op = 3 ∨ ofF op = 4 ∨ ofF op = 5 ∨ ofF op = 6 ∨ ofF op = 7 ∨ ofF op = 8 ∨ ofF op = 9 := by
  unfold ofF
  repeat' split
  all_goals omega
set_option maxHeartbeats 4000000 in
set_option maxRecDepth 100000 in
theorem may_0 {w : World} {ad : Addr} {x : S106} {A5 A6 A7 : Option Addr} {c5 c6 c7 : Nat} (hk : ofF x.f0 = 0) (z0 : w.cell? ad = some (.int .i64 x.f0)) (z1 : w.cell? ⟨ad.block, ad.off + 1, none⟩ = some (.int .i64 x.f1)) (z2 : w.cell? ⟨ad.block, ad.off + 2, none⟩ = some (.int .i64 x.f2)) (z3 : w.cell? ⟨ad.block, ad.off + 3, none⟩ = some (.int .i64 x.f3)) (z4 : w.cell? ⟨ad.block, ad.off + 4, none⟩ = some (.int .i64 x.f4)) (z5 : w.cell? ⟨ad.block, ad.off + 5, none⟩ = some (.slice A5 x.f5.length c5)) (z6 : w.cell? ⟨ad.block, ad.off + 6, none⟩ = some (.slice A6 x.f6.length c6)) (z7 : w.cell? ⟨ad.block, ad.off + 7, none⟩ = some (.slice A7 x.f7.length c7)) (l5 : x.f5.length ≤ c5) (C5 : (Kd.int .i64).C w A5 x.f5.length x.f5) (m6 : x.f6.length ≤ 9223372036854775807) (m7 : x.f7.length ≤ 9223372036854775807) :
    Calls Try.prog 77 #[.pointer (some ad)] w fun e w' => e = .returned (.bool (mayB x)) ∧ Drawn0 w w' := by
  have HK := Aside0.mk hk
  have M6 := Aside0.mk m6
  have M7 := Aside0.mk m7
  have HC := Aside0.mk (And.intro C5 l5)
  clear m6 m7 C5 l5
  all_goals go_enter Try.func77, Try.ntmps77
  all_goals go_wp2_with (first | (go_at_call 76; (with_reducible refine (of_k hk _).mono ?_); rintro e w' ⟨rfl, ⟨n, rfl⟩⟩) | (go_at_call 81; (with_reducible refine (u32_c _ _).mono ?_); rintro e w' ⟨rfl, ⟨n, rfl⟩⟩) | (go_at_call 82; (with_reducible refine (wide_c _ _).mono ?_); rintro e w' ⟨rfl, ⟨n, rfl⟩⟩) | (go_at_call 73; (with_reducible refine (type_c _ _).mono ?_); rintro e w' ⟨rfl, ⟨n, rfl⟩⟩) | (go_at_call 60; (with_reducible refine (contains_d HC.out (below_drewN2 _ _)).mono ?_); rintro e w' ⟨rfl, ⟨n, rfl⟩⟩))
  repeat (any_goals (go_quiet ((go_at_call 81; exact quiet_d (u32_c _ _))); try go_wp2_with (first | (go_at_call 76; (with_reducible refine (of_k hk _).mono ?_); rintro e w' ⟨rfl, ⟨n, rfl⟩⟩) | (go_at_call 81; (with_reducible refine (u32_c _ _).mono ?_); rintro e w' ⟨rfl, ⟨n, rfl⟩⟩) | (go_at_call 82; (with_reducible refine (wide_c _ _).mono ?_); rintro e w' ⟨rfl, ⟨n, rfl⟩⟩) | (go_at_call 73; (with_reducible refine (type_c _ _).mono ?_); rintro e w' ⟨rfl, ⟨n, rfl⟩⟩) | (go_at_call 60; (with_reducible refine (contains_d HC.out (below_drewN2 _ _)).mono ?_); rintro e w' ⟨rfl, ⟨n, rfl⟩⟩))))
  all_goals
    have hk := HK.out
    try have h4 := H4.out
    try have h7 := H7.out
    go_ret
    refine ⟨ret_bool ?_, drawn_i _ rfl⟩
    unfold mayB
    rw [hk]
    clear hk
    first
      | (simp [mayA, mayC, mayN, mayT, mayL, mayI, sum_zero M6.out M7.out, *]; done)
      | (simp [mayA, mayC, mayN, mayT, mayL, mayI, sum_zero M6.out M7.out, *]; omega)
      | skip
set_option maxHeartbeats 4000000 in
set_option maxRecDepth 100000 in
theorem may_1 {w : World} {ad : Addr} {x : S106} {A5 A6 A7 : Option Addr} {c5 c6 c7 : Nat} (hk : ofF x.f0 = 1) (z0 : w.cell? ad = some (.int .i64 x.f0)) (z1 : w.cell? ⟨ad.block, ad.off + 1, none⟩ = some (.int .i64 x.f1)) (z2 : w.cell? ⟨ad.block, ad.off + 2, none⟩ = some (.int .i64 x.f2)) (z3 : w.cell? ⟨ad.block, ad.off + 3, none⟩ = some (.int .i64 x.f3)) (z4 : w.cell? ⟨ad.block, ad.off + 4, none⟩ = some (.int .i64 x.f4)) (z5 : w.cell? ⟨ad.block, ad.off + 5, none⟩ = some (.slice A5 x.f5.length c5)) (z6 : w.cell? ⟨ad.block, ad.off + 6, none⟩ = some (.slice A6 x.f6.length c6)) (z7 : w.cell? ⟨ad.block, ad.off + 7, none⟩ = some (.slice A7 x.f7.length c7)) (l5 : x.f5.length ≤ c5) (C5 : (Kd.int .i64).C w A5 x.f5.length x.f5) (m6 : x.f6.length ≤ 9223372036854775807) (m7 : x.f7.length ≤ 9223372036854775807) :
    Calls Try.prog 77 #[.pointer (some ad)] w fun e w' => e = .returned (.bool (mayB x)) ∧ Drawn0 w w' := by
  have HK := Aside0.mk hk
  have M6 := Aside0.mk m6
  have M7 := Aside0.mk m7
  have HC := Aside0.mk (And.intro C5 l5)
  clear m6 m7 C5 l5
  all_goals go_enter Try.func77, Try.ntmps77
  all_goals go_wp2_with (first | (go_at_call 76; (with_reducible refine (of_k hk _).mono ?_); rintro e w' ⟨rfl, ⟨n, rfl⟩⟩) | (go_at_call 81; (with_reducible refine (u32_c _ _).mono ?_); rintro e w' ⟨rfl, ⟨n, rfl⟩⟩) | (go_at_call 82; (with_reducible refine (wide_c _ _).mono ?_); rintro e w' ⟨rfl, ⟨n, rfl⟩⟩) | (go_at_call 73; (with_reducible refine (type_c _ _).mono ?_); rintro e w' ⟨rfl, ⟨n, rfl⟩⟩) | (go_at_call 60; (with_reducible refine (contains_d HC.out (below_drewN2 _ _)).mono ?_); rintro e w' ⟨rfl, ⟨n, rfl⟩⟩))
  repeat (any_goals (go_quiet ((go_at_call 81; exact quiet_d (u32_c _ _))); try go_wp2_with (first | (go_at_call 76; (with_reducible refine (of_k hk _).mono ?_); rintro e w' ⟨rfl, ⟨n, rfl⟩⟩) | (go_at_call 81; (with_reducible refine (u32_c _ _).mono ?_); rintro e w' ⟨rfl, ⟨n, rfl⟩⟩) | (go_at_call 82; (with_reducible refine (wide_c _ _).mono ?_); rintro e w' ⟨rfl, ⟨n, rfl⟩⟩) | (go_at_call 73; (with_reducible refine (type_c _ _).mono ?_); rintro e w' ⟨rfl, ⟨n, rfl⟩⟩) | (go_at_call 60; (with_reducible refine (contains_d HC.out (below_drewN2 _ _)).mono ?_); rintro e w' ⟨rfl, ⟨n, rfl⟩⟩))))
  all_goals
    have hk := HK.out
    try have h4 := H4.out
    try have h7 := H7.out
    go_ret
    refine ⟨ret_bool ?_, drawn_i _ rfl⟩
    unfold mayB
    rw [hk]
    clear hk
    first
      | (simp [mayA, mayC, mayN, mayT, mayL, mayI, sum_zero M6.out M7.out, *]; done)
      | (simp [mayA, mayC, mayN, mayT, mayL, mayI, sum_zero M6.out M7.out, *]; omega)
      | skip
set_option maxHeartbeats 4000000 in
set_option maxRecDepth 100000 in
theorem may_2 {w : World} {ad : Addr} {x : S106} {A5 A6 A7 : Option Addr} {c5 c6 c7 : Nat} (hk : ofF x.f0 = 2) (z0 : w.cell? ad = some (.int .i64 x.f0)) (z1 : w.cell? ⟨ad.block, ad.off + 1, none⟩ = some (.int .i64 x.f1)) (z2 : w.cell? ⟨ad.block, ad.off + 2, none⟩ = some (.int .i64 x.f2)) (z3 : w.cell? ⟨ad.block, ad.off + 3, none⟩ = some (.int .i64 x.f3)) (z4 : w.cell? ⟨ad.block, ad.off + 4, none⟩ = some (.int .i64 x.f4)) (z5 : w.cell? ⟨ad.block, ad.off + 5, none⟩ = some (.slice A5 x.f5.length c5)) (z6 : w.cell? ⟨ad.block, ad.off + 6, none⟩ = some (.slice A6 x.f6.length c6)) (z7 : w.cell? ⟨ad.block, ad.off + 7, none⟩ = some (.slice A7 x.f7.length c7)) (l5 : x.f5.length ≤ c5) (C5 : (Kd.int .i64).C w A5 x.f5.length x.f5) (m6 : x.f6.length ≤ 9223372036854775807) (m7 : x.f7.length ≤ 9223372036854775807) :
    Calls Try.prog 77 #[.pointer (some ad)] w fun e w' => e = .returned (.bool (mayB x)) ∧ Drawn0 w w' := by
  have HK := Aside0.mk hk
  have M6 := Aside0.mk m6
  have M7 := Aside0.mk m7
  have HC := Aside0.mk (And.intro C5 l5)
  clear m6 m7 C5 l5
  have hc : ((x.f0 == 4) = true ∧ x.f0 = 4) ∨ ((x.f0 == 4) = false ∧ ¬ x.f0 = 4 ∧ ((x.f7.length : Int) == 0) = true ∧ x.f7.length = 0) ∨ ((x.f0 == 4) = false ∧ ¬ x.f0 = 4 ∧ ((x.f7.length : Int) == 0) = false ∧ ¬ x.f7.length = 0) := by
    by_cases h4 : x.f0 = 4
    · exact .inl ⟨by simp [h4], h4⟩
    · by_cases h7 : x.f7.length = 0
      · exact .inr (.inl ⟨by simp [h4], h4, by simp [h7], h7⟩)
      · exact .inr (.inr ⟨by simp [h4], h4, by rw [beq_eq_false_iff_ne]; omega, h7⟩)
  rcases hc with ⟨d4, h4⟩ | ⟨d4, h4, d7, h7⟩ | ⟨d4, h4, d7, h7⟩
  all_goals
    have H4 := Aside0.mk h4
    clear h4
    try (have H7 := Aside0.mk h7; clear h7)
  all_goals go_enter Try.func77, Try.ntmps77
  all_goals go_wp2_with (first | (go_at_call 76; (with_reducible refine (of_k hk _).mono ?_); rintro e w' ⟨rfl, ⟨n, rfl⟩⟩) | (go_at_call 81; (with_reducible refine (u32_c _ _).mono ?_); rintro e w' ⟨rfl, ⟨n, rfl⟩⟩) | (go_at_call 82; (with_reducible refine (wide_c _ _).mono ?_); rintro e w' ⟨rfl, ⟨n, rfl⟩⟩) | (go_at_call 73; (with_reducible refine (type_c _ _).mono ?_); rintro e w' ⟨rfl, ⟨n, rfl⟩⟩) | (go_at_call 60; (with_reducible refine (contains_d HC.out (below_drewN2 _ _)).mono ?_); rintro e w' ⟨rfl, ⟨n, rfl⟩⟩))
  repeat (any_goals (go_quiet ((go_at_call 81; exact quiet_d (u32_c _ _))); try go_wp2_with (first | (go_at_call 76; (with_reducible refine (of_k hk _).mono ?_); rintro e w' ⟨rfl, ⟨n, rfl⟩⟩) | (go_at_call 81; (with_reducible refine (u32_c _ _).mono ?_); rintro e w' ⟨rfl, ⟨n, rfl⟩⟩) | (go_at_call 82; (with_reducible refine (wide_c _ _).mono ?_); rintro e w' ⟨rfl, ⟨n, rfl⟩⟩) | (go_at_call 73; (with_reducible refine (type_c _ _).mono ?_); rintro e w' ⟨rfl, ⟨n, rfl⟩⟩) | (go_at_call 60; (with_reducible refine (contains_d HC.out (below_drewN2 _ _)).mono ?_); rintro e w' ⟨rfl, ⟨n, rfl⟩⟩))))
  all_goals
    have hk := HK.out
    try have h4 := H4.out
    try have h7 := H7.out
    go_ret
    refine ⟨ret_bool ?_, drawn_i _ rfl⟩
    unfold mayB
    rw [hk]
    clear hk
    first
      | (simp [mayA, mayC, mayN, mayT, mayL, mayI, sum_zero M6.out M7.out, *]; done)
      | (simp [mayA, mayC, mayN, mayT, mayL, mayI, sum_zero M6.out M7.out, *]; omega)
      | skip
set_option maxHeartbeats 4000000 in
set_option maxRecDepth 100000 in
theorem may_3 {w : World} {ad : Addr} {x : S106} {A5 A6 A7 : Option Addr} {c5 c6 c7 : Nat} (hk : ofF x.f0 = 3) (z0 : w.cell? ad = some (.int .i64 x.f0)) (z1 : w.cell? ⟨ad.block, ad.off + 1, none⟩ = some (.int .i64 x.f1)) (z2 : w.cell? ⟨ad.block, ad.off + 2, none⟩ = some (.int .i64 x.f2)) (z3 : w.cell? ⟨ad.block, ad.off + 3, none⟩ = some (.int .i64 x.f3)) (z4 : w.cell? ⟨ad.block, ad.off + 4, none⟩ = some (.int .i64 x.f4)) (z5 : w.cell? ⟨ad.block, ad.off + 5, none⟩ = some (.slice A5 x.f5.length c5)) (z6 : w.cell? ⟨ad.block, ad.off + 6, none⟩ = some (.slice A6 x.f6.length c6)) (z7 : w.cell? ⟨ad.block, ad.off + 7, none⟩ = some (.slice A7 x.f7.length c7)) (l5 : x.f5.length ≤ c5) (C5 : (Kd.int .i64).C w A5 x.f5.length x.f5) (m6 : x.f6.length ≤ 9223372036854775807) (m7 : x.f7.length ≤ 9223372036854775807) :
    Calls Try.prog 77 #[.pointer (some ad)] w fun e w' => e = .returned (.bool (mayB x)) ∧ Drawn0 w w' := by
  have HK := Aside0.mk hk
  have M6 := Aside0.mk m6
  have M7 := Aside0.mk m7
  have HC := Aside0.mk (And.intro C5 l5)
  clear m6 m7 C5 l5
  all_goals go_enter Try.func77, Try.ntmps77
  all_goals go_wp2_with (first | (go_at_call 76; (with_reducible refine (of_k hk _).mono ?_); rintro e w' ⟨rfl, ⟨n, rfl⟩⟩) | (go_at_call 81; (with_reducible refine (u32_c _ _).mono ?_); rintro e w' ⟨rfl, ⟨n, rfl⟩⟩) | (go_at_call 82; (with_reducible refine (wide_c _ _).mono ?_); rintro e w' ⟨rfl, ⟨n, rfl⟩⟩) | (go_at_call 73; (with_reducible refine (type_c _ _).mono ?_); rintro e w' ⟨rfl, ⟨n, rfl⟩⟩) | (go_at_call 60; (with_reducible refine (contains_d HC.out (below_drewN2 _ _)).mono ?_); rintro e w' ⟨rfl, ⟨n, rfl⟩⟩))
  repeat (any_goals (go_quiet ((go_at_call 81; exact quiet_d (u32_c _ _))); try go_wp2_with (first | (go_at_call 76; (with_reducible refine (of_k hk _).mono ?_); rintro e w' ⟨rfl, ⟨n, rfl⟩⟩) | (go_at_call 81; (with_reducible refine (u32_c _ _).mono ?_); rintro e w' ⟨rfl, ⟨n, rfl⟩⟩) | (go_at_call 82; (with_reducible refine (wide_c _ _).mono ?_); rintro e w' ⟨rfl, ⟨n, rfl⟩⟩) | (go_at_call 73; (with_reducible refine (type_c _ _).mono ?_); rintro e w' ⟨rfl, ⟨n, rfl⟩⟩) | (go_at_call 60; (with_reducible refine (contains_d HC.out (below_drewN2 _ _)).mono ?_); rintro e w' ⟨rfl, ⟨n, rfl⟩⟩))))
  all_goals
    have hk := HK.out
    try have h4 := H4.out
    try have h7 := H7.out
    go_ret
    refine ⟨ret_bool ?_, drawn_i _ rfl⟩
    unfold mayB
    rw [hk]
    clear hk
    first
      | (simp [mayA, mayC, mayN, mayT, mayL, mayI, sum_zero M6.out M7.out, *]; done)
      | (simp [mayA, mayC, mayN, mayT, mayL, mayI, sum_zero M6.out M7.out, *]; omega)
      | skip
set_option maxHeartbeats 4000000 in
set_option maxRecDepth 100000 in
theorem may_4 {w : World} {ad : Addr} {x : S106} {A5 A6 A7 : Option Addr} {c5 c6 c7 : Nat} (hk : ofF x.f0 = 4) (z0 : w.cell? ad = some (.int .i64 x.f0)) (z1 : w.cell? ⟨ad.block, ad.off + 1, none⟩ = some (.int .i64 x.f1)) (z2 : w.cell? ⟨ad.block, ad.off + 2, none⟩ = some (.int .i64 x.f2)) (z3 : w.cell? ⟨ad.block, ad.off + 3, none⟩ = some (.int .i64 x.f3)) (z4 : w.cell? ⟨ad.block, ad.off + 4, none⟩ = some (.int .i64 x.f4)) (z5 : w.cell? ⟨ad.block, ad.off + 5, none⟩ = some (.slice A5 x.f5.length c5)) (z6 : w.cell? ⟨ad.block, ad.off + 6, none⟩ = some (.slice A6 x.f6.length c6)) (z7 : w.cell? ⟨ad.block, ad.off + 7, none⟩ = some (.slice A7 x.f7.length c7)) (l5 : x.f5.length ≤ c5) (C5 : (Kd.int .i64).C w A5 x.f5.length x.f5) (m6 : x.f6.length ≤ 9223372036854775807) (m7 : x.f7.length ≤ 9223372036854775807) :
    Calls Try.prog 77 #[.pointer (some ad)] w fun e w' => e = .returned (.bool (mayB x)) ∧ Drawn0 w w' := by
  have HK := Aside0.mk hk
  have M6 := Aside0.mk m6
  have M7 := Aside0.mk m7
  have HC := Aside0.mk (And.intro C5 l5)
  clear m6 m7 C5 l5
  all_goals go_enter Try.func77, Try.ntmps77
  all_goals go_wp2_with (first | (go_at_call 76; (with_reducible refine (of_k hk _).mono ?_); rintro e w' ⟨rfl, ⟨n, rfl⟩⟩) | (go_at_call 81; (with_reducible refine (u32_c _ _).mono ?_); rintro e w' ⟨rfl, ⟨n, rfl⟩⟩) | (go_at_call 82; (with_reducible refine (wide_c _ _).mono ?_); rintro e w' ⟨rfl, ⟨n, rfl⟩⟩) | (go_at_call 73; (with_reducible refine (type_c _ _).mono ?_); rintro e w' ⟨rfl, ⟨n, rfl⟩⟩) | (go_at_call 60; (with_reducible refine (contains_d HC.out (below_drewN2 _ _)).mono ?_); rintro e w' ⟨rfl, ⟨n, rfl⟩⟩))
  repeat (any_goals (go_quiet ((go_at_call 81; exact quiet_d (u32_c _ _))); try go_wp2_with (first | (go_at_call 76; (with_reducible refine (of_k hk _).mono ?_); rintro e w' ⟨rfl, ⟨n, rfl⟩⟩) | (go_at_call 81; (with_reducible refine (u32_c _ _).mono ?_); rintro e w' ⟨rfl, ⟨n, rfl⟩⟩) | (go_at_call 82; (with_reducible refine (wide_c _ _).mono ?_); rintro e w' ⟨rfl, ⟨n, rfl⟩⟩) | (go_at_call 73; (with_reducible refine (type_c _ _).mono ?_); rintro e w' ⟨rfl, ⟨n, rfl⟩⟩) | (go_at_call 60; (with_reducible refine (contains_d HC.out (below_drewN2 _ _)).mono ?_); rintro e w' ⟨rfl, ⟨n, rfl⟩⟩))))
  all_goals
    have hk := HK.out
    try have h4 := H4.out
    try have h7 := H7.out
    go_ret
    refine ⟨ret_bool ?_, drawn_i _ rfl⟩
    unfold mayB
    rw [hk]
    clear hk
    first
      | (simp [mayA, mayC, mayN, mayT, mayL, mayI, sum_zero M6.out M7.out, *]; done)
      | (simp [mayA, mayC, mayN, mayT, mayL, mayI, sum_zero M6.out M7.out, *]; omega)
      | skip
set_option maxHeartbeats 4000000 in
set_option maxRecDepth 100000 in
theorem may_5 {w : World} {ad : Addr} {x : S106} {A5 A6 A7 : Option Addr} {c5 c6 c7 : Nat} (hk : ofF x.f0 = 5) (z0 : w.cell? ad = some (.int .i64 x.f0)) (z1 : w.cell? ⟨ad.block, ad.off + 1, none⟩ = some (.int .i64 x.f1)) (z2 : w.cell? ⟨ad.block, ad.off + 2, none⟩ = some (.int .i64 x.f2)) (z3 : w.cell? ⟨ad.block, ad.off + 3, none⟩ = some (.int .i64 x.f3)) (z4 : w.cell? ⟨ad.block, ad.off + 4, none⟩ = some (.int .i64 x.f4)) (z5 : w.cell? ⟨ad.block, ad.off + 5, none⟩ = some (.slice A5 x.f5.length c5)) (z6 : w.cell? ⟨ad.block, ad.off + 6, none⟩ = some (.slice A6 x.f6.length c6)) (z7 : w.cell? ⟨ad.block, ad.off + 7, none⟩ = some (.slice A7 x.f7.length c7)) (l5 : x.f5.length ≤ c5) (C5 : (Kd.int .i64).C w A5 x.f5.length x.f5) (m6 : x.f6.length ≤ 9223372036854775807) (m7 : x.f7.length ≤ 9223372036854775807) :
    Calls Try.prog 77 #[.pointer (some ad)] w fun e w' => e = .returned (.bool (mayB x)) ∧ Drawn0 w w' := by
  have HK := Aside0.mk hk
  have M6 := Aside0.mk m6
  have M7 := Aside0.mk m7
  have HC := Aside0.mk (And.intro C5 l5)
  clear m6 m7 C5 l5
  all_goals go_enter Try.func77, Try.ntmps77
  all_goals go_wp2_with (first | (go_at_call 76; (with_reducible refine (of_k hk _).mono ?_); rintro e w' ⟨rfl, ⟨n, rfl⟩⟩) | (go_at_call 81; (with_reducible refine (u32_c _ _).mono ?_); rintro e w' ⟨rfl, ⟨n, rfl⟩⟩) | (go_at_call 82; (with_reducible refine (wide_c _ _).mono ?_); rintro e w' ⟨rfl, ⟨n, rfl⟩⟩) | (go_at_call 73; (with_reducible refine (type_c _ _).mono ?_); rintro e w' ⟨rfl, ⟨n, rfl⟩⟩) | (go_at_call 60; (with_reducible refine (contains_d HC.out (below_drewN2 _ _)).mono ?_); rintro e w' ⟨rfl, ⟨n, rfl⟩⟩))
  repeat (any_goals (go_quiet ((go_at_call 81; exact quiet_d (u32_c _ _))); try go_wp2_with (first | (go_at_call 76; (with_reducible refine (of_k hk _).mono ?_); rintro e w' ⟨rfl, ⟨n, rfl⟩⟩) | (go_at_call 81; (with_reducible refine (u32_c _ _).mono ?_); rintro e w' ⟨rfl, ⟨n, rfl⟩⟩) | (go_at_call 82; (with_reducible refine (wide_c _ _).mono ?_); rintro e w' ⟨rfl, ⟨n, rfl⟩⟩) | (go_at_call 73; (with_reducible refine (type_c _ _).mono ?_); rintro e w' ⟨rfl, ⟨n, rfl⟩⟩) | (go_at_call 60; (with_reducible refine (contains_d HC.out (below_drewN2 _ _)).mono ?_); rintro e w' ⟨rfl, ⟨n, rfl⟩⟩))))
  all_goals
    have hk := HK.out
    try have h4 := H4.out
    try have h7 := H7.out
    go_ret
    refine ⟨ret_bool ?_, drawn_i _ rfl⟩
    unfold mayB
    rw [hk]
    clear hk
    first
      | (simp [mayA, mayC, mayN, mayT, mayL, mayI, sum_zero M6.out M7.out, *]; done)
      | (simp [mayA, mayC, mayN, mayT, mayL, mayI, sum_zero M6.out M7.out, *]; omega)
      | skip
set_option maxHeartbeats 4000000 in
set_option maxRecDepth 100000 in
theorem may_6 {w : World} {ad : Addr} {x : S106} {A5 A6 A7 : Option Addr} {c5 c6 c7 : Nat} (hk : ofF x.f0 = 6) (z0 : w.cell? ad = some (.int .i64 x.f0)) (z1 : w.cell? ⟨ad.block, ad.off + 1, none⟩ = some (.int .i64 x.f1)) (z2 : w.cell? ⟨ad.block, ad.off + 2, none⟩ = some (.int .i64 x.f2)) (z3 : w.cell? ⟨ad.block, ad.off + 3, none⟩ = some (.int .i64 x.f3)) (z4 : w.cell? ⟨ad.block, ad.off + 4, none⟩ = some (.int .i64 x.f4)) (z5 : w.cell? ⟨ad.block, ad.off + 5, none⟩ = some (.slice A5 x.f5.length c5)) (z6 : w.cell? ⟨ad.block, ad.off + 6, none⟩ = some (.slice A6 x.f6.length c6)) (z7 : w.cell? ⟨ad.block, ad.off + 7, none⟩ = some (.slice A7 x.f7.length c7)) (l5 : x.f5.length ≤ c5) (C5 : (Kd.int .i64).C w A5 x.f5.length x.f5) (m6 : x.f6.length ≤ 9223372036854775807) (m7 : x.f7.length ≤ 9223372036854775807) :
    Calls Try.prog 77 #[.pointer (some ad)] w fun e w' => e = .returned (.bool (mayB x)) ∧ Drawn0 w w' := by
  have HK := Aside0.mk hk
  have M6 := Aside0.mk m6
  have M7 := Aside0.mk m7
  have HC := Aside0.mk (And.intro C5 l5)
  clear m6 m7 C5 l5
  all_goals go_enter Try.func77, Try.ntmps77
  all_goals go_wp2_with (first | (go_at_call 76; (with_reducible refine (of_k hk _).mono ?_); rintro e w' ⟨rfl, ⟨n, rfl⟩⟩) | (go_at_call 81; (with_reducible refine (u32_c _ _).mono ?_); rintro e w' ⟨rfl, ⟨n, rfl⟩⟩) | (go_at_call 82; (with_reducible refine (wide_c _ _).mono ?_); rintro e w' ⟨rfl, ⟨n, rfl⟩⟩) | (go_at_call 73; (with_reducible refine (type_c _ _).mono ?_); rintro e w' ⟨rfl, ⟨n, rfl⟩⟩) | (go_at_call 60; (with_reducible refine (contains_d HC.out (below_drewN2 _ _)).mono ?_); rintro e w' ⟨rfl, ⟨n, rfl⟩⟩))
  repeat (any_goals (go_quiet ((go_at_call 81; exact quiet_d (u32_c _ _))); try go_wp2_with (first | (go_at_call 76; (with_reducible refine (of_k hk _).mono ?_); rintro e w' ⟨rfl, ⟨n, rfl⟩⟩) | (go_at_call 81; (with_reducible refine (u32_c _ _).mono ?_); rintro e w' ⟨rfl, ⟨n, rfl⟩⟩) | (go_at_call 82; (with_reducible refine (wide_c _ _).mono ?_); rintro e w' ⟨rfl, ⟨n, rfl⟩⟩) | (go_at_call 73; (with_reducible refine (type_c _ _).mono ?_); rintro e w' ⟨rfl, ⟨n, rfl⟩⟩) | (go_at_call 60; (with_reducible refine (contains_d HC.out (below_drewN2 _ _)).mono ?_); rintro e w' ⟨rfl, ⟨n, rfl⟩⟩))))
  all_goals
    have hk := HK.out
    try have h4 := H4.out
    try have h7 := H7.out
    go_ret
    refine ⟨ret_bool ?_, drawn_i _ rfl⟩
    unfold mayB
    rw [hk]
    clear hk
    first
      | (simp [mayA, mayC, mayN, mayT, mayL, mayI, sum_zero M6.out M7.out, *]; done)
      | (simp [mayA, mayC, mayN, mayT, mayL, mayI, sum_zero M6.out M7.out, *]; omega)
      | skip
set_option maxHeartbeats 4000000 in
set_option maxRecDepth 100000 in
theorem may_7 {w : World} {ad : Addr} {x : S106} {A5 A6 A7 : Option Addr} {c5 c6 c7 : Nat} (hk : ofF x.f0 = 7) (z0 : w.cell? ad = some (.int .i64 x.f0)) (z1 : w.cell? ⟨ad.block, ad.off + 1, none⟩ = some (.int .i64 x.f1)) (z2 : w.cell? ⟨ad.block, ad.off + 2, none⟩ = some (.int .i64 x.f2)) (z3 : w.cell? ⟨ad.block, ad.off + 3, none⟩ = some (.int .i64 x.f3)) (z4 : w.cell? ⟨ad.block, ad.off + 4, none⟩ = some (.int .i64 x.f4)) (z5 : w.cell? ⟨ad.block, ad.off + 5, none⟩ = some (.slice A5 x.f5.length c5)) (z6 : w.cell? ⟨ad.block, ad.off + 6, none⟩ = some (.slice A6 x.f6.length c6)) (z7 : w.cell? ⟨ad.block, ad.off + 7, none⟩ = some (.slice A7 x.f7.length c7)) (l5 : x.f5.length ≤ c5) (C5 : (Kd.int .i64).C w A5 x.f5.length x.f5) (m6 : x.f6.length ≤ 9223372036854775807) (m7 : x.f7.length ≤ 9223372036854775807) :
    Calls Try.prog 77 #[.pointer (some ad)] w fun e w' => e = .returned (.bool (mayB x)) ∧ Drawn0 w w' := by
  have HK := Aside0.mk hk
  have M6 := Aside0.mk m6
  have M7 := Aside0.mk m7
  have HC := Aside0.mk (And.intro C5 l5)
  clear m6 m7 C5 l5
  all_goals go_enter Try.func77, Try.ntmps77
  all_goals go_wp2_with (first | (go_at_call 76; (with_reducible refine (of_k hk _).mono ?_); rintro e w' ⟨rfl, ⟨n, rfl⟩⟩) | (go_at_call 81; (with_reducible refine (u32_c _ _).mono ?_); rintro e w' ⟨rfl, ⟨n, rfl⟩⟩) | (go_at_call 82; (with_reducible refine (wide_c _ _).mono ?_); rintro e w' ⟨rfl, ⟨n, rfl⟩⟩) | (go_at_call 73; (with_reducible refine (type_c _ _).mono ?_); rintro e w' ⟨rfl, ⟨n, rfl⟩⟩) | (go_at_call 60; (with_reducible refine (contains_d HC.out (below_drewN2 _ _)).mono ?_); rintro e w' ⟨rfl, ⟨n, rfl⟩⟩))
  repeat (any_goals (go_quiet ((go_at_call 81; exact quiet_d (u32_c _ _))); try go_wp2_with (first | (go_at_call 76; (with_reducible refine (of_k hk _).mono ?_); rintro e w' ⟨rfl, ⟨n, rfl⟩⟩) | (go_at_call 81; (with_reducible refine (u32_c _ _).mono ?_); rintro e w' ⟨rfl, ⟨n, rfl⟩⟩) | (go_at_call 82; (with_reducible refine (wide_c _ _).mono ?_); rintro e w' ⟨rfl, ⟨n, rfl⟩⟩) | (go_at_call 73; (with_reducible refine (type_c _ _).mono ?_); rintro e w' ⟨rfl, ⟨n, rfl⟩⟩) | (go_at_call 60; (with_reducible refine (contains_d HC.out (below_drewN2 _ _)).mono ?_); rintro e w' ⟨rfl, ⟨n, rfl⟩⟩))))
  all_goals
    have hk := HK.out
    try have h4 := H4.out
    try have h7 := H7.out
    go_ret
    refine ⟨ret_bool ?_, drawn_i _ rfl⟩
    unfold mayB
    rw [hk]
    clear hk
    first
      | (simp [mayA, mayC, mayN, mayT, mayL, mayI, sum_zero M6.out M7.out, *]; done)
      | (simp [mayA, mayC, mayN, mayT, mayL, mayI, sum_zero M6.out M7.out, *]; omega)
      | skip
set_option maxHeartbeats 4000000 in
set_option maxRecDepth 100000 in
theorem may_8 {w : World} {ad : Addr} {x : S106} {A5 A6 A7 : Option Addr} {c5 c6 c7 : Nat} (hk : ofF x.f0 = 8) (z0 : w.cell? ad = some (.int .i64 x.f0)) (z1 : w.cell? ⟨ad.block, ad.off + 1, none⟩ = some (.int .i64 x.f1)) (z2 : w.cell? ⟨ad.block, ad.off + 2, none⟩ = some (.int .i64 x.f2)) (z3 : w.cell? ⟨ad.block, ad.off + 3, none⟩ = some (.int .i64 x.f3)) (z4 : w.cell? ⟨ad.block, ad.off + 4, none⟩ = some (.int .i64 x.f4)) (z5 : w.cell? ⟨ad.block, ad.off + 5, none⟩ = some (.slice A5 x.f5.length c5)) (z6 : w.cell? ⟨ad.block, ad.off + 6, none⟩ = some (.slice A6 x.f6.length c6)) (z7 : w.cell? ⟨ad.block, ad.off + 7, none⟩ = some (.slice A7 x.f7.length c7)) (l5 : x.f5.length ≤ c5) (C5 : (Kd.int .i64).C w A5 x.f5.length x.f5) (m6 : x.f6.length ≤ 9223372036854775807) (m7 : x.f7.length ≤ 9223372036854775807) :
    Calls Try.prog 77 #[.pointer (some ad)] w fun e w' => e = .returned (.bool (mayB x)) ∧ Drawn0 w w' := by
  have HK := Aside0.mk hk
  have M6 := Aside0.mk m6
  have M7 := Aside0.mk m7
  have HC := Aside0.mk (And.intro C5 l5)
  clear m6 m7 C5 l5
  all_goals go_enter Try.func77, Try.ntmps77
  all_goals go_wp2_with (first | (go_at_call 76; (with_reducible refine (of_k hk _).mono ?_); rintro e w' ⟨rfl, ⟨n, rfl⟩⟩) | (go_at_call 81; (with_reducible refine (u32_c _ _).mono ?_); rintro e w' ⟨rfl, ⟨n, rfl⟩⟩) | (go_at_call 82; (with_reducible refine (wide_c _ _).mono ?_); rintro e w' ⟨rfl, ⟨n, rfl⟩⟩) | (go_at_call 73; (with_reducible refine (type_c _ _).mono ?_); rintro e w' ⟨rfl, ⟨n, rfl⟩⟩) | (go_at_call 60; (with_reducible refine (contains_d HC.out (below_drewN2 _ _)).mono ?_); rintro e w' ⟨rfl, ⟨n, rfl⟩⟩))
  repeat (any_goals (go_quiet ((go_at_call 81; exact quiet_d (u32_c _ _))); try go_wp2_with (first | (go_at_call 76; (with_reducible refine (of_k hk _).mono ?_); rintro e w' ⟨rfl, ⟨n, rfl⟩⟩) | (go_at_call 81; (with_reducible refine (u32_c _ _).mono ?_); rintro e w' ⟨rfl, ⟨n, rfl⟩⟩) | (go_at_call 82; (with_reducible refine (wide_c _ _).mono ?_); rintro e w' ⟨rfl, ⟨n, rfl⟩⟩) | (go_at_call 73; (with_reducible refine (type_c _ _).mono ?_); rintro e w' ⟨rfl, ⟨n, rfl⟩⟩) | (go_at_call 60; (with_reducible refine (contains_d HC.out (below_drewN2 _ _)).mono ?_); rintro e w' ⟨rfl, ⟨n, rfl⟩⟩))))
  all_goals
    have hk := HK.out
    try have h4 := H4.out
    try have h7 := H7.out
    go_ret
    refine ⟨ret_bool ?_, drawn_i _ rfl⟩
    unfold mayB
    rw [hk]
    clear hk
    first
      | (simp [mayA, mayC, mayN, mayT, mayL, mayI, sum_zero M6.out M7.out, *]; done)
      | (simp [mayA, mayC, mayN, mayT, mayL, mayI, sum_zero M6.out M7.out, *]; omega)
      | skip
set_option maxHeartbeats 4000000 in
set_option maxRecDepth 100000 in
theorem may_9 {w : World} {ad : Addr} {x : S106} {A5 A6 A7 : Option Addr} {c5 c6 c7 : Nat} (hk : ofF x.f0 = 9) (z0 : w.cell? ad = some (.int .i64 x.f0)) (z1 : w.cell? ⟨ad.block, ad.off + 1, none⟩ = some (.int .i64 x.f1)) (z2 : w.cell? ⟨ad.block, ad.off + 2, none⟩ = some (.int .i64 x.f2)) (z3 : w.cell? ⟨ad.block, ad.off + 3, none⟩ = some (.int .i64 x.f3)) (z4 : w.cell? ⟨ad.block, ad.off + 4, none⟩ = some (.int .i64 x.f4)) (z5 : w.cell? ⟨ad.block, ad.off + 5, none⟩ = some (.slice A5 x.f5.length c5)) (z6 : w.cell? ⟨ad.block, ad.off + 6, none⟩ = some (.slice A6 x.f6.length c6)) (z7 : w.cell? ⟨ad.block, ad.off + 7, none⟩ = some (.slice A7 x.f7.length c7)) (l5 : x.f5.length ≤ c5) (C5 : (Kd.int .i64).C w A5 x.f5.length x.f5) (m6 : x.f6.length ≤ 9223372036854775807) (m7 : x.f7.length ≤ 9223372036854775807) :
    Calls Try.prog 77 #[.pointer (some ad)] w fun e w' => e = .returned (.bool (mayB x)) ∧ Drawn0 w w' := by
  have HK := Aside0.mk hk
  have M6 := Aside0.mk m6
  have M7 := Aside0.mk m7
  have HC := Aside0.mk (And.intro C5 l5)
  clear m6 m7 C5 l5
  all_goals go_enter Try.func77, Try.ntmps77
  all_goals go_wp2_with (first | (go_at_call 76; (with_reducible refine (of_k hk _).mono ?_); rintro e w' ⟨rfl, ⟨n, rfl⟩⟩) | (go_at_call 81; (with_reducible refine (u32_c _ _).mono ?_); rintro e w' ⟨rfl, ⟨n, rfl⟩⟩) | (go_at_call 82; (with_reducible refine (wide_c _ _).mono ?_); rintro e w' ⟨rfl, ⟨n, rfl⟩⟩) | (go_at_call 73; (with_reducible refine (type_c _ _).mono ?_); rintro e w' ⟨rfl, ⟨n, rfl⟩⟩) | (go_at_call 60; (with_reducible refine (contains_d HC.out (below_drewN2 _ _)).mono ?_); rintro e w' ⟨rfl, ⟨n, rfl⟩⟩))
  repeat (any_goals (go_quiet ((go_at_call 81; exact quiet_d (u32_c _ _))); try go_wp2_with (first | (go_at_call 76; (with_reducible refine (of_k hk _).mono ?_); rintro e w' ⟨rfl, ⟨n, rfl⟩⟩) | (go_at_call 81; (with_reducible refine (u32_c _ _).mono ?_); rintro e w' ⟨rfl, ⟨n, rfl⟩⟩) | (go_at_call 82; (with_reducible refine (wide_c _ _).mono ?_); rintro e w' ⟨rfl, ⟨n, rfl⟩⟩) | (go_at_call 73; (with_reducible refine (type_c _ _).mono ?_); rintro e w' ⟨rfl, ⟨n, rfl⟩⟩) | (go_at_call 60; (with_reducible refine (contains_d HC.out (below_drewN2 _ _)).mono ?_); rintro e w' ⟨rfl, ⟨n, rfl⟩⟩))))
  all_goals
    have hk := HK.out
    try have h4 := H4.out
    try have h7 := H7.out
    go_ret
    refine ⟨ret_bool ?_, drawn_i _ rfl⟩
    unfold mayB
    rw [hk]
    clear hk
    first
      | (simp [mayA, mayC, mayN, mayT, mayL, mayI, sum_zero M6.out M7.out, *]; done)
      | (simp [mayA, mayC, mayN, mayT, mayL, mayI, sum_zero M6.out M7.out, *]; omega)
      | skip
theorem may_c {w : World} {ad : Addr} {x : S106} {A5 A6 A7 : Option Addr} {c5 c6 c7 : Nat} (z0 : w.cell? ad = some (.int .i64 x.f0)) (z1 : w.cell? ⟨ad.block, ad.off + 1, none⟩ = some (.int .i64 x.f1)) (z2 : w.cell? ⟨ad.block, ad.off + 2, none⟩ = some (.int .i64 x.f2)) (z3 : w.cell? ⟨ad.block, ad.off + 3, none⟩ = some (.int .i64 x.f3)) (z4 : w.cell? ⟨ad.block, ad.off + 4, none⟩ = some (.int .i64 x.f4)) (z5 : w.cell? ⟨ad.block, ad.off + 5, none⟩ = some (.slice A5 x.f5.length c5)) (z6 : w.cell? ⟨ad.block, ad.off + 6, none⟩ = some (.slice A6 x.f6.length c6)) (z7 : w.cell? ⟨ad.block, ad.off + 7, none⟩ = some (.slice A7 x.f7.length c7)) (l5 : x.f5.length ≤ c5) (C5 : (Kd.int .i64).C w A5 x.f5.length x.f5) (m6 : x.f6.length ≤ 9223372036854775807) (m7 : x.f7.length ≤ 9223372036854775807) :
    Calls Try.prog 77 #[.pointer (some ad)] w fun e w' => e = .returned (.bool (mayB x)) ∧ Drawn0 w w' := by
  rcases ofF_range x.f0 with hk | hk | hk | hk | hk | hk | hk | hk | hk | hk
  · exact may_0 hk z0 z1 z2 z3 z4 z5 z6 z7 l5 C5 m6 m7
  · exact may_1 hk z0 z1 z2 z3 z4 z5 z6 z7 l5 C5 m6 m7
  · exact may_2 hk z0 z1 z2 z3 z4 z5 z6 z7 l5 C5 m6 m7
  · exact may_3 hk z0 z1 z2 z3 z4 z5 z6 z7 l5 C5 m6 m7
  · exact may_4 hk z0 z1 z2 z3 z4 z5 z6 z7 l5 C5 m6 m7
  · exact may_5 hk z0 z1 z2 z3 z4 z5 z6 z7 l5 C5 m6 m7
  · exact may_6 hk z0 z1 z2 z3 z4 z5 z6 z7 l5 C5 m6 m7
  · exact may_7 hk z0 z1 z2 z3 z4 z5 z6 z7 l5 C5 m6 m7
  · exact may_8 hk z0 z1 z2 z3 z4 z5 z6 z7 l5 C5 m6 m7
  · exact may_9 hk z0 z1 z2 z3 z4 z5 z6 z7 l5 C5 m6 m7
end Go.Proofs.Ytmofdpkddimmlaa.EInstr
