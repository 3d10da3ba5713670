/-
  Plain facts on numbers in parts of 7 bits: digits to the base 128, their value, the model's bit operations on them. No program in sight.
-/
import Derived.Test.YtflejniglhjbfaaDoorWMore
namespace Go.Proofs.YtflejniglhjbfaaDoor.LebMath
open Go Go.RowKit Go.Proofs.YtflejniglhjbfaaDoorW.PrintWords Go.Proofs.YtflejniglhjbfaaDoorW.PrintMore

/-! ### bits -/
theorem wrap64_eq {x : Int} (h0 : -9223372036854775808 ≤ x) (h1 : x < 9223372036854775808) : wrap64 x = x := by unfold wrap64; omega
theorem wrap64_mod (x : Int) : ∃ q : Int, wrap64 x = x + 18446744073709551616 * q := ⟨-((x + 9223372036854775808) / 18446744073709551616), by unfold wrap64; omega⟩
theorem wrap64_idem (x y : Int) (h : x % 18446744073709551616 = y % 18446744073709551616) : wrap64 x = wrap64 y := by unfold wrap64; omega
theorem u64_eq (x : Int) : IntKind.u64.wrap x = x % 18446744073709551616 := by
  simp only [IntKind.wrap, IntKind.bits, IntKind.signed]; simp
theorem u8_eq (x : Int) : IntKind.u8.wrap x = x % 256 := by
  simp only [IntKind.wrap, IntKind.bits, IntKind.signed]; simp
theorem i64_eq (x : Int) : IntKind.i64.wrap x = wrap64 x := by unfold wrap64; exact IntKind.wrap_i64 x
theorem ofInt_toNat (n : Nat) (x : Int) : (BitVec.ofInt n x).toNat = (x % (2 ^ n : Nat)).toNat := by
  simp [BitVec.toNat_ofInt]
theorem or_u8 (b : Int) (h0 : 0 ≤ b) (h1 : b < 256) : Go.bits .or .u8 b 128 = b % 128 + 128 := by
  have h : ∀ c : Fin 256, Go.bits .or .u8 (c.val : Int) 128 = (c.val : Int) % 128 + 128 := by decide +kernel
  have := h ⟨b.toNat, by omega⟩
  simp only [Int.toNat_of_nonneg h0] at this
  exact this
theorem and_u8 (b : Int) (h0 : 0 ≤ b) (h1 : b < 256) : Go.bits .and .u8 b 127 = b % 128 := by
  have h : ∀ c : Fin 256, Go.bits .and .u8 (c.val : Int) 127 = (c.val : Int) % 128 := by decide +kernel
  have := h ⟨b.toNat, by omega⟩
  simp only [Int.toNat_of_nonneg h0] at this
  exact this
/-- 'x & (2^m - 1)' on int. -/
theorem and_mask (x : Int) (m : Nat) (hm : m < 63) (M : Int) (hM : M = ((2 ^ m : Nat) : Int) - 1) : Go.bits .and .i64 x M = x % ((2 ^ m : Nat) : Int) := by
  subst hM
  have hp : (2 : Nat) ^ m ≤ 2 ^ 62 := Nat.pow_le_pow_right (by omega) (by omega)
  have hp0 : 0 < (2 : Nat) ^ m := Nat.two_pow_pos m
  show IntKind.i64.wrap (((BitVec.ofInt 64 x &&& BitVec.ofInt 64 (((2 ^ m : Nat) : Int) - 1)).toNat : Nat) : Int) = _
  rw [BitVec.toNat_and, ofInt_toNat, ofInt_toNat, i64_eq]
  have e1 : ((((2 ^ m : Nat) : Int) - 1) % ((2 ^ 64 : Nat) : Int)).toNat = 2 ^ m - 1 := by
    have : ((2 ^ 64 : Nat) : Int) = 18446744073709551616 := by decide
    rw [this]; omega
  rw [e1, Nat.and_two_pow_sub_one_eq_mod]
  have e2 : (((x % ((2 ^ 64 : Nat) : Int)).toNat % 2 ^ m : Nat) : Int) = x % ((2 ^ m : Nat) : Int) := by
    rw [Int.natCast_emod, Int.toNat_of_nonneg (Int.emod_nonneg _ (by decide))]
    refine Int.emod_emod_of_dvd _ ?_
    have : (2 ^ m : Nat) ∣ (2 ^ 64 : Nat) := Nat.pow_dvd_pow 2 (by omega)
    exact_mod_cast this
  rw [e2]
  have h1 := Int.emod_nonneg x (show ((2 ^ m : Nat) : Int) ≠ 0 by omega)
  have h2 := Int.emod_lt_of_pos x (show (0 : Int) < ((2 ^ m : Nat) : Int) by omega)
  exact wrap64_eq (by omega) (by omega)
theorem or_nat (a b m : Nat) (hb : b < 2 ^ m) : (2 ^ m * a) ||| b = 2 ^ m * a + b := (Nat.two_pow_add_eq_or_of_lt hb a).symm
/-- 'X | Y' where X is a multiple of 2^m and Y lies below it. -/
theorem or_i64 (X Y : Int) (m : Nat) (hm : m ≤ 64) (hX : X % ((2 ^ m : Nat) : Int) = 0) (hY0 : 0 ≤ Y) (hY : Y < ((2 ^ m : Nat) : Int)) : Go.bits .or .i64 X Y = wrap64 (X + Y) := by
  show IntKind.i64.wrap (((BitVec.ofInt 64 X ||| BitVec.ofInt 64 Y).toNat : Nat) : Int) = _
  rw [BitVec.toNat_or, ofInt_toNat, ofInt_toNat, i64_eq]
  have h64 : ((2 ^ 64 : Nat) : Int) = 18446744073709551616 := by decide
  have hp : (2 : Nat) ^ m ≤ 2 ^ 64 := Nat.pow_le_pow_right (by omega) hm
  have hdvd : ((2 ^ m : Nat) : Int) ∣ ((2 ^ 64 : Nat) : Int) := by
    have : (2 ^ m : Nat) ∣ (2 ^ 64 : Nat) := Nat.pow_dvd_pow 2 hm
    exact_mod_cast this
  have hX' : (X % ((2 ^ 64 : Nat) : Int)) % ((2 ^ m : Nat) : Int) = 0 := by rw [Int.emod_emod_of_dvd _ hdvd]; exact hX
  have hx0 : 0 ≤ X % ((2 ^ 64 : Nat) : Int) := Int.emod_nonneg _ (by decide)
  have hxm : (X % ((2 ^ 64 : Nat) : Int)).toNat % 2 ^ m = 0 := by
    have : (((X % ((2 ^ 64 : Nat) : Int)).toNat % 2 ^ m : Nat) : Int) = 0 := by rw [Int.natCast_emod, Int.toNat_of_nonneg hx0]; exact hX'
    omega
  have e1 : (X % ((2 ^ 64 : Nat) : Int)).toNat = 2 ^ m * ((X % ((2 ^ 64 : Nat) : Int)).toNat / 2 ^ m) := by
    have := Nat.div_add_mod (X % ((2 ^ 64 : Nat) : Int)).toNat (2 ^ m); omega
  have hYlt : Y < ((2 ^ 64 : Nat) : Int) := by
    have : ((2 ^ m : Nat) : Int) ≤ ((2 ^ 64 : Nat) : Int) := by exact_mod_cast hp
    omega
  have e2 : (Y % ((2 ^ 64 : Nat) : Int)).toNat = Y.toNat := by rw [Int.emod_eq_of_lt hY0 hYlt]
  rw [e2]
  rw [e1, or_nat _ _ _ (by omega), ← e1]
  refine wrap64_idem _ _ ?_
  rw [Int.natCast_add, Int.toNat_of_nonneg hx0, Int.toNat_of_nonneg hY0, h64]
  omega
theorem bor_comm (k : IntKind) (X Y : Int) : Go.bits .or k X Y = Go.bits .or k Y X := by
  simp only [Go.bits]; rw [BitVec.or_comm]
theorem or_u64 (X Y : Int) (m : Nat) (hm : m ≤ 64) (hX : X % ((2 ^ m : Nat) : Int) = 0) (hY0 : 0 ≤ Y) (hY : Y < ((2 ^ m : Nat) : Int)) : Go.bits .or .u64 X Y = (X + Y) % 18446744073709551616 := by
  have h1 := or_i64 X Y m hm hX hY0 hY
  have e : Go.bits .or .i64 X Y = wrap64 (((BitVec.ofInt 64 X ||| BitVec.ofInt 64 Y).toNat : Nat) : Int) := by
    show IntKind.i64.wrap (((BitVec.ofInt 64 X ||| BitVec.ofInt 64 Y).toNat : Nat) : Int) = _
    rw [i64_eq]
  have e' : Go.bits .or .u64 X Y = ((((BitVec.ofInt 64 X ||| BitVec.ofInt 64 Y).toNat : Nat) : Int)) % 18446744073709551616 := by
    show IntKind.u64.wrap (((BitVec.ofInt 64 X ||| BitVec.ofInt 64 Y).toNat : Nat) : Int) = _
    rw [u64_eq]
  rw [e'] 
  rw [e] at h1
  unfold wrap64 at h1
  omega

/-! ### powers of 128 -/
theorem p128 (i : Nat) : ((2 ^ (7 * i) : Nat) : Int) = 128 ^ i := by
  rw [Nat.pow_mul]; norm_cast
theorem pow_pos128 (i : Nat) : (0 : Int) < 128 ^ i := by
  induction i with
  | zero => decide
  | succ i ih => rw [Int.pow_succ]; omega

/-! ### digits -/
/-- A number's digits, at most d + 1 of them; all but the last bear 128. -/
def U : Nat → Int → List Int
  | 0, u => [u % 256]
  | d + 1, u => if u ≥ 128 then (u % 128 + 128) :: U d (u / 128) else [u % 256]
/-- The digits of a number with sign. -/
def S : Nat → Int → List Int
  | 0, x => [x % 128]
  | d + 1, x => if x < -64 then (x % 128 + 128) :: S d (x / 128) else if x > 63 then (x % 128 + 128) :: S d (x / 128) else [x % 128]
/-- The value of m digits from the j-th on. -/
def T (f : Nat → Int) : Nat → Nat → Int
  | _, 0 => 0
  | j, m + 1 => f j % 128 + 128 * T f (j + 1) m
theorem T_nonneg (f : Nat → Int) : ∀ m j, 0 ≤ T f j m
  | 0, _ => Int.le_refl _
  | m + 1, j => by unfold T; have := T_nonneg f m (j + 1); omega
theorem T_lt (f : Nat → Int) : ∀ m j, T f j m < 128 ^ m
  | 0, _ => by simp [T]
  | m + 1, j => by unfold T; have := T_lt f m (j + 1); rw [Int.pow_succ]; omega
theorem T_last (f : Nat → Int) : ∀ m j, T f j (m + 1) = T f j m + (f (j + m) % 128) * 128 ^ m
  | 0, j => by simp [T]
  | m + 1, j => by
    rw [T, T_last f m (j + 1), T, show j + 1 + m = j + (m + 1) from by omega, Int.pow_succ]
    rw [Int.mul_add, ← Int.add_assoc]
    congr 1
    rw [Int.mul_comm 128, Int.mul_assoc]
theorem T_congr (f g : Nat → Int) : ∀ m j, (∀ i, j ≤ i → i < j + m → f i = g i) → T f j m = T g j m
  | 0, _, _ => rfl
  | m + 1, j, h => by
    rw [T, T, h j (by omega) (by omega), T_congr f g m (j + 1) (fun i h1 h2 => h i (by omega) (by omega))]

/-- How many parts there are; an error. -/
def scan (f : Nat → Int) (lim : Nat) : Nat → Nat → Int × Int
  | 0, _ => (0, 1200)
  | d + 1, i => if i = lim then (0, 1201) else if f i < 128 then ((i : Int) + 1, 0) else scan f lim d (i + 1)
theorem scan_cases (f : Nat → Int) (lim : Nat) : ∀ d i, i ≤ lim → (scan f lim d i = (0, 1200) ∧ (∀ j, i ≤ j → j < i + d → 128 ≤ f j) ∧ i + d ≤ lim) ∨ (scan f lim d i = (0, 1201) ∧ lim < i + d ∧ ∀ j, i ≤ j → j < lim → 128 ≤ f j) ∨ ∃ n : Nat, i ≤ n ∧ n < i + d ∧ n < lim ∧ scan f lim d i = ((n : Int) + 1, 0) ∧ f n < 128 ∧ ∀ j, i ≤ j → j < n → 128 ≤ f j
  | 0, i, h => .inl ⟨rfl, fun j h1 h2 => by omega, by omega⟩
  | d + 1, i, h => by
    by_cases h1 : i = lim
    · exact .inr (.inl ⟨by rw [scan, if_pos h1], by omega, fun j h2 h3 => by omega⟩)
    · by_cases h2 : f i < 128
      · exact .inr (.inr ⟨i, by omega, by omega, by omega, by rw [scan, if_neg h1, if_pos h2], h2, fun j h3 h4 => by omega⟩)
      · have e : scan f lim (d + 1) i = scan f lim d (i + 1) := by rw [scan, if_neg h1, if_neg h2]
        rw [e]
        rcases scan_cases f lim d (i + 1) (by omega) with ⟨a, b, c⟩ | ⟨a, b, c⟩ | ⟨n, a, b, c, g, k, l⟩
        · refine .inl ⟨a, fun j h3 h4 => ?_, by omega⟩
          by_cases e : j = i
          · subst e; omega
          · exact b j (by omega) (by omega)
        · refine .inr (.inl ⟨a, by omega, fun j h3 h4 => ?_⟩)
          by_cases e : j = i
          · subst e; omega
          · exact c j (by omega) (by omega)
        · refine .inr (.inr ⟨n, by omega, by omega, c, g, k, fun j h3 h4 => ?_⟩)
          by_cases e : j = i
          · subst e; omega
          · exact l j (by omega) (by omega)
theorem scan_ok (f : Nat → Int) (lim : Nat) : ∀ d i n, i ≤ n → n < i + d → n < lim → f n < 128 → (∀ j, i ≤ j → j < n → 128 ≤ f j) → scan f lim d i = ((n : Int) + 1, 0)
  | 0, i, n, h1, h2, _, _, _ => by omega
  | d + 1, i, n, h1, h2, h3, h4, h5 => by
    rw [scan, if_neg (by omega)]
    by_cases e : i = n
    · subst e; rw [if_pos h4]
    · rw [if_neg (by have := h5 i (by omega) (by omega); omega)]
      exact scan_ok f lim d (i + 1) n (by omega) (by omega) h3 h4 (fun j h6 h7 => h5 j (by omega) h7)
theorem scan_cut (f : Nat → Int) (lim : Nat) : ∀ d i, i ≤ lim → lim < i + d → (∀ j, i ≤ j → j < lim → 128 ≤ f j) → scan f lim d i = (0, 1201)
  | 0, i, h1, h2, _ => by omega
  | d + 1, i, h1, h2, h3 => by
    rw [scan]
    by_cases e : i = lim
    · rw [if_pos e]
    · rw [if_neg e, if_neg (by have := h3 i (by omega) (by omega); omega)]
      exact scan_cut f lim d (i + 1) (by omega) (by omega) (fun j h6 h7 => h3 j (by omega) h7)
theorem scan_long (f : Nat → Int) (lim : Nat) : ∀ d i, i + d ≤ lim → (∀ j, i ≤ j → j < i + d → 128 ≤ f j) → scan f lim d i = (0, 1200)
  | 0, i, h1, _ => rfl
  | d + 1, i, h1, h3 => by
    rw [scan, if_neg (by omega), if_neg (by have := h3 i (by omega) (by omega); omega)]
    exact scan_long f lim d (i + 1) (by omega) (fun j h6 h7 => h3 j (by omega) (by omega))
end Go.Proofs.YtflejniglhjbfaaDoor.LebMath
