/-
  Plain facts on numbers in parts of 7 bits: digits to the base 128, their value, the model's bit operations on them. No program in sight. What the printed functions of package leb, and of its reference, come to: digits, their value. What Get and GetSigned, and their references, come to. What GetSigned and its reference come to. Numbers come back: digits as Put and PutSigned lay them, read by Get and GetSigned.
-/
import Derived.Test.YtbekfmeaeaghpaaFx2
import Derived.Test.YtbekfmeaeaghpaaFx3
import Derived.Test.YtbekfmeaeaghpaaWMore
namespace Go.Proofs.Ytbekfmeaeaghpaa.LebMath
open Go Go.RowKit Go.Proofs.YtbekfmeaeaghpaaW.PrintWords Go.Proofs.YtbekfmeaeaghpaaW.PrintMore

/-! ### bits -/
theorem wrap64_eq {x : Int} (h0 : -9223372036854775808 ≤ x) (h1 : x < 9223372036854775808) : wrap64 x = x := by unfold wrap64; omega
theorem wrap64_mod (x : Int) : ∃ q : Int, wrap64 x = x + 18446744073709551616 * q := ⟨-((x + 9223372036854775808) / 18446744073709551616), by unfold wrap64; omega⟩
theorem wrap64_idem (x y : Int) (h : x % 18446744073709551616 = y % 18446744073709551616) : wrap64 x = wrap64 y := by unfold wrap64; omega
theorem u64_eq (x : Int) : IntKind.u64.wrap x = x % 18446744073709551616 := by
  simp only [IntKind.wrap, IntKind.bits, IntKind.signed]; simp
theorem u8_eq (x : Int) : IntKind.u8.wrap x = x % 256 := by
  simp only [IntKind.wrap, IntKind.bits, IntKind.signed]; simp
theorem i64_eq (x : Int) : IntKind.i64.wrap x = wrap64 x := by unfold wrap64; exact IntKind.wrap_i64 x
theorem ofInt_toNat (n : Nat) (x : Int) : (BitVec.ofInt n x).toNat = (x % (2 ^ n : Nat)).toNat := by
  simp [BitVec.toNat_ofInt]
theorem or_u8 (b : Int) (h0 : 0 ≤ b) (h1 : b < 256) : Go.bits .or .u8 b 128 = b % 128 + 128 := by
  have h : ∀ c : Fin 256, Go.bits .or .u8 (c.val : Int) 128 = (c.val : Int) % 128 + 128 := by decide +kernel
  have := h ⟨b.toNat, by omega⟩
  simp only [Int.toNat_of_nonneg h0] at this
  exact this
theorem and_u8 (b : Int) (h0 : 0 ≤ b) (h1 : b < 256) : Go.bits .and .u8 b 127 = b % 128 := by
  have h : ∀ c : Fin 256, Go.bits .and .u8 (c.val : Int) 127 = (c.val : Int) % 128 := by decide +kernel
  have := h ⟨b.toNat, by omega⟩
  simp only [Int.toNat_of_nonneg h0] at this
  exact this
/-- 'x & (2^m - 1)' on int. -/
theorem and_mask (x : Int) (m : Nat) (hm : m < 63) (M : Int) (hM : M = ((2 ^ m : Nat) : Int) - 1) : Go.bits .and .i64 x M = x % ((2 ^ m : Nat) : Int) := by
  subst hM
  have hp : (2 : Nat) ^ m ≤ 2 ^ 62 := Nat.pow_le_pow_right (by omega) (by omega)
  have hp0 : 0 < (2 : Nat) ^ m := Nat.two_pow_pos m
  show IntKind.i64.wrap (((BitVec.ofInt 64 x &&& BitVec.ofInt 64 (((2 ^ m : Nat) : Int) - 1)).toNat : Nat) : Int) = _
  rw [BitVec.toNat_and, ofInt_toNat, ofInt_toNat, i64_eq]
  have e1 : ((((2 ^ m : Nat) : Int) - 1) % ((2 ^ 64 : Nat) : Int)).toNat = 2 ^ m - 1 := by
    have : ((2 ^ 64 : Nat) : Int) = 18446744073709551616 := by decide
    rw [this]; omega
  rw [e1, Nat.and_two_pow_sub_one_eq_mod]
  have e2 : (((x % ((2 ^ 64 : Nat) : Int)).toNat % 2 ^ m : Nat) : Int) = x % ((2 ^ m : Nat) : Int) := by
    rw [Int.natCast_emod, Int.toNat_of_nonneg (Int.emod_nonneg _ (by decide))]
    refine Int.emod_emod_of_dvd _ ?_
    have : (2 ^ m : Nat) ∣ (2 ^ 64 : Nat) := Nat.pow_dvd_pow 2 (by omega)
    exact_mod_cast this
  rw [e2]
  have h1 := Int.emod_nonneg x (show ((2 ^ m : Nat) : Int) ≠ 0 by omega)
  have h2 := Int.emod_lt_of_pos x (show (0 : Int) < ((2 ^ m : Nat) : Int) by omega)
  exact wrap64_eq (by omega) (by omega)
theorem or_nat (a b m : Nat) (hb : b < 2 ^ m) : (2 ^ m * a) ||| b = 2 ^ m * a + b := (Nat.two_pow_add_eq_or_of_lt hb a).symm
/-- 'X | Y' where X is a multiple of 2^m and Y lies below it. -/
theorem or_i64 (X Y : Int) (m : Nat) (hm : m ≤ 64) (hX : X % ((2 ^ m : Nat) : Int) = 0) (hY0 : 0 ≤ Y) (hY : Y < ((2 ^ m : Nat) : Int)) : Go.bits .or .i64 X Y = wrap64 (X + Y) := by
  show IntKind.i64.wrap (((BitVec.ofInt 64 X ||| BitVec.ofInt 64 Y).toNat : Nat) : Int) = _
  rw [BitVec.toNat_or, ofInt_toNat, ofInt_toNat, i64_eq]
  have h64 : ((2 ^ 64 : Nat) : Int) = 18446744073709551616 := by decide
  have hp : (2 : Nat) ^ m ≤ 2 ^ 64 := Nat.pow_le_pow_right (by omega) hm
  have hdvd : ((2 ^ m : Nat) : Int) ∣ ((2 ^ 64 : Nat) : Int) := by
    have : (2 ^ m : Nat) ∣ (2 ^ 64 : Nat) := Nat.pow_dvd_pow 2 hm
    exact_mod_cast this
  have hX' : (X % ((2 ^ 64 : Nat) : Int)) % ((2 ^ m : Nat) : Int) = 0 := by rw [Int.emod_emod_of_dvd _ hdvd]; exact hX
  have hx0 : 0 ≤ X % ((2 ^ 64 : Nat) : Int) := Int.emod_nonneg _ (by decide)
  have hxm : (X % ((2 ^ 64 : Nat) : Int)).toNat % 2 ^ m = 0 := by
    have : (((X % ((2 ^ 64 : Nat) : Int)).toNat % 2 ^ m : Nat) : Int) = 0 := by rw [Int.natCast_emod, Int.toNat_of_nonneg hx0]; exact hX'
    omega
  have e1 : (X % ((2 ^ 64 : Nat) : Int)).toNat = 2 ^ m * ((X % ((2 ^ 64 : Nat) : Int)).toNat / 2 ^ m) := by
    have := Nat.div_add_mod (X % ((2 ^ 64 : Nat) : Int)).toNat (2 ^ m); omega
  have hYlt : Y < ((2 ^ 64 : Nat) : Int) := by
    have : ((2 ^ m : Nat) : Int) ≤ ((2 ^ 64 : Nat) : Int) := by exact_mod_cast hp
    omega
  have e2 : (Y % ((2 ^ 64 : Nat) : Int)).toNat = Y.toNat := by rw [Int.emod_eq_of_lt hY0 hYlt]
  rw [e2]
  rw [e1, or_nat _ _ _ (by omega), ← e1]
  refine wrap64_idem _ _ ?_
  rw [Int.natCast_add, Int.toNat_of_nonneg hx0, Int.toNat_of_nonneg hY0, h64]
  omega
theorem bor_comm (k : IntKind) (X Y : Int) : Go.bits .or k X Y = Go.bits .or k Y X := by
  simp only [Go.bits]; rw [BitVec.or_comm]
theorem or_u64 (X Y : Int) (m : Nat) (hm : m ≤ 64) (hX : X % ((2 ^ m : Nat) : Int) = 0) (hY0 : 0 ≤ Y) (hY : Y < ((2 ^ m : Nat) : Int)) : Go.bits .or .u64 X Y = (X + Y) % 18446744073709551616 := by
  have h1 := or_i64 X Y m hm hX hY0 hY
  have e : Go.bits .or .i64 X Y = wrap64 (((BitVec.ofInt 64 X ||| BitVec.ofInt 64 Y).toNat : Nat) : Int) := by
    show IntKind.i64.wrap (((BitVec.ofInt 64 X ||| BitVec.ofInt 64 Y).toNat : Nat) : Int) = _
    rw [i64_eq]
  have e' : Go.bits .or .u64 X Y = ((((BitVec.ofInt 64 X ||| BitVec.ofInt 64 Y).toNat : Nat) : Int)) % 18446744073709551616 := by
    show IntKind.u64.wrap (((BitVec.ofInt 64 X ||| BitVec.ofInt 64 Y).toNat : Nat) : Int) = _
    rw [u64_eq]
  rw [e'] 
  rw [e] at h1
  unfold wrap64 at h1
  omega

/-! ### powers of 128 -/
theorem p128 (i : Nat) : ((2 ^ (7 * i) : Nat) : Int) = 128 ^ i := by
  rw [Nat.pow_mul]; norm_cast
theorem pow_pos128 (i : Nat) : (0 : Int) < 128 ^ i := by
  induction i with
  | zero => decide
  | succ i ih => rw [Int.pow_succ]; omega

/-! ### digits -/
/-- A number's digits, at most d + 1 of them; all but the last bear 128. -/
def U : Nat → Int → List Int
  | 0, u => [u % 256]
  | d + 1, u => if u ≥ 128 then (u % 128 + 128) :: U d (u / 128) else [u % 256]
/-- The digits of a number with sign. -/
def S : Nat → Int → List Int
  | 0, x => [x % 128]
  | d + 1, x => if x < -64 then (x % 128 + 128) :: S d (x / 128) else if x > 63 then (x % 128 + 128) :: S d (x / 128) else [x % 128]
/-- The value of m digits from the j-th on. -/
def T (f : Nat → Int) : Nat → Nat → Int
  | _, 0 => 0
  | j, m + 1 => f j % 128 + 128 * T f (j + 1) m
theorem T_nonneg (f : Nat → Int) : ∀ m j, 0 ≤ T f j m
  | 0, _ => Int.le_refl _
  | m + 1, j => by unfold T; have := T_nonneg f m (j + 1); omega
theorem T_lt (f : Nat → Int) : ∀ m j, T f j m < 128 ^ m
  | 0, _ => by simp [T]
  | m + 1, j => by unfold T; have := T_lt f m (j + 1); rw [Int.pow_succ]; omega
theorem T_last (f : Nat → Int) : ∀ m j, T f j (m + 1) = T f j m + (f (j + m) % 128) * 128 ^ m
  | 0, j => by simp [T]
  | m + 1, j => by
    rw [T, T_last f m (j + 1), T, show j + 1 + m = j + (m + 1) from by omega, Int.pow_succ]
    rw [Int.mul_add, ← Int.add_assoc]
    congr 1
    rw [Int.mul_comm 128, Int.mul_assoc]
theorem T_congr (f g : Nat → Int) : ∀ m j, (∀ i, j ≤ i → i < j + m → f i = g i) → T f j m = T g j m
  | 0, _, _ => rfl
  | m + 1, j, h => by
    rw [T, T, h j (by omega) (by omega), T_congr f g m (j + 1) (fun i h1 h2 => h i (by omega) (by omega))]

/-- How many parts there are; an error. -/
def scan (f : Nat → Int) (lim : Nat) : Nat → Nat → Int × Int
  | 0, _ => (0, 1200)
  | d + 1, i => if i = lim then (0, 1201) else if f i < 128 then ((i : Int) + 1, 0) else scan f lim d (i + 1)
theorem scan_cases (f : Nat → Int) (lim : Nat) : ∀ d i, i ≤ lim → (scan f lim d i = (0, 1200) ∧ (∀ j, i ≤ j → j < i + d → 128 ≤ f j) ∧ i + d ≤ lim) ∨ (scan f lim d i = (0, 1201) ∧ lim < i + d ∧ ∀ j, i ≤ j → j < lim → 128 ≤ f j) ∨ ∃ n : Nat, i ≤ n ∧ n < i + d ∧ n < lim ∧ scan f lim d i = ((n : Int) + 1, 0) ∧ f n < 128 ∧ ∀ j, i ≤ j → j < n → 128 ≤ f j
  | 0, i, h => .inl ⟨rfl, fun j h1 h2 => by omega, by omega⟩
  | d + 1, i, h => by
    by_cases h1 : i = lim
    · exact .inr (.inl ⟨by rw [scan, if_pos h1], by omega, fun j h2 h3 => by omega⟩)
    · by_cases h2 : f i < 128
      · exact .inr (.inr ⟨i, by omega, by omega, by omega, by rw [scan, if_neg h1, if_pos h2], h2, fun j h3 h4 => by omega⟩)
      · have e : scan f lim (d + 1) i = scan f lim d (i + 1) := by rw [scan, if_neg h1, if_neg h2]
        rw [e]
        rcases scan_cases f lim d (i + 1) (by omega) with ⟨a, b, c⟩ | ⟨a, b, c⟩ | ⟨n, a, b, c, g, k, l⟩
        · refine .inl ⟨a, fun j h3 h4 => ?_, by omega⟩
          by_cases e : j = i
          · subst e; omega
          · exact b j (by omega) (by omega)
        · refine .inr (.inl ⟨a, by omega, fun j h3 h4 => ?_⟩)
          by_cases e : j = i
          · subst e; omega
          · exact c j (by omega) (by omega)
        · refine .inr (.inr ⟨n, by omega, by omega, c, g, k, fun j h3 h4 => ?_⟩)
          by_cases e : j = i
          · subst e; omega
          · exact l j (by omega) (by omega)
theorem scan_ok (f : Nat → Int) (lim : Nat) : ∀ d i n, i ≤ n → n < i + d → n < lim → f n < 128 → (∀ j, i ≤ j → j < n → 128 ≤ f j) → scan f lim d i = ((n : Int) + 1, 0)
  | 0, i, n, h1, h2, _, _, _ => by omega
  | d + 1, i, n, h1, h2, h3, h4, h5 => by
    rw [scan, if_neg (by omega)]
    by_cases e : i = n
    · subst e; rw [if_pos h4]
    · rw [if_neg (by have := h5 i (by omega) (by omega); omega)]
      exact scan_ok f lim d (i + 1) n (by omega) (by omega) h3 h4 (fun j h6 h7 => h5 j (by omega) h7)
theorem scan_cut (f : Nat → Int) (lim : Nat) : ∀ d i, i ≤ lim → lim < i + d → (∀ j, i ≤ j → j < lim → 128 ≤ f j) → scan f lim d i = (0, 1201)
  | 0, i, h1, h2, _ => by omega
  | d + 1, i, h1, h2, h3 => by
    rw [scan]
    by_cases e : i = lim
    · rw [if_pos e]
    · rw [if_neg e, if_neg (by have := h3 i (by omega) (by omega); omega)]
      exact scan_cut f lim d (i + 1) (by omega) (by omega) (fun j h6 h7 => h3 j (by omega) h7)
theorem scan_long (f : Nat → Int) (lim : Nat) : ∀ d i, i + d ≤ lim → (∀ j, i ≤ j → j < i + d → 128 ≤ f j) → scan f lim d i = (0, 1200)
  | 0, i, h1, _ => rfl
  | d + 1, i, h1, h3 => by
    rw [scan, if_neg (by omega), if_neg (by have := h3 i (by omega) (by omega); omega)]
    exact scan_long f lim d (i + 1) (by omega) (fun j h6 h7 => h3 j (by omega) (by omega))
end Go.Proofs.Ytbekfmeaeaghpaa.LebMath
namespace Go.Proofs.Ytbekfmeaeaghpaa.LebFns
open Go Go.RowKit Go.Proofs.YtbekfmeaeaghpaaW.PrintWords Go.Proofs.YtbekfmeaeaghpaaW.PrintMore Go.Proofs.Ytbekfmeaeaghpaa.LebMath Go.Proofs.Ytbekfmeaeaghpaa.F

/-! ### Put -/
theorem put_l0 : ∀ (d : Nat) (u : Int) (acc : List Int) (k : Nat), 0 ≤ u → u < 128 ^ (d + 1) → acc.length + d + 1 ≤ 1000 → d < k → leb_Put.l0 k acc u = some (strOfNums (acc ++ U d u))
  | d, u, acc, 0, _, _, _, h => by omega
  | 0, u, acc, k + 1, h0, h1, h2, h3 => by
    rw [leb_Put.l0, if_neg (by simp at h1; omega), if_pos (by omega), U]
  | d + 1, u, acc, k + 1, h0, h1, h2, h3 => by
    rw [leb_Put.l0, U]
    by_cases h : u ≥ 128
    · rw [if_pos h, if_pos (by omega), if_pos h]
      rw [put_l0 d (u / 128) _ k (by omega) (by rw [Int.pow_succ] at h1; omega) (by simp; omega) (by omega)]
      rw [or_u8 _ (by omega) (by omega), List.append_assoc]
      rw [show u % 256 % 128 = u % 128 from by omega]
      rfl
    · rw [if_neg h, if_pos (by omega), if_neg h]
theorem pow10 : (18446744073709551616 : Int) < 128 ^ (9 + 1) := by decide
theorem put_ev (x : Int) : Ev (fun k => leb_Put.f k x) (strOfNums (U 9 (x % 18446744073709551616))) := by
  refine ⟨10, fun k hk => ?_⟩
  show leb_Put.l0 k [] (IntKind.u64.wrap x) = _
  rw [u64_eq, put_l0 9 _ [] k (by omega) (by have := pow10; omega) (by simp) (by omega)]
  rfl
theorem puts_l0 : ∀ (d : Nat) (x : Int) (acc : List Int) (k : Nat), -(64 * 128 ^ d) ≤ x → x < 64 * 128 ^ d → acc.length + d + 1 ≤ 1000 → d < k → leb_PutSigned.l0 k x acc = some (strOfNums (acc ++ S d x))
  | d, u, acc, 0, _, _, _, h => by omega
  | 0, x, acc, k + 1, h0, h1, h2, h3 => by
    rw [leb_PutSigned.l0, if_neg (by simp at h0; omega), if_neg (by simp at h1; omega), if_pos (by omega), S, and_u8 _ (by omega) (by omega), show x % 256 % 128 = x % 128 from by omega]
  | d + 1, x, acc, k + 1, h0, h1, h2, h3 => by
    have step : leb_PutSigned.l0 k (x / 128) (acc ++ [Go.bits .or .u8 (x % 256) 128]) = some (strOfNums (acc ++ ((x % 128 + 128) :: S d (x / 128)))) := by
      rw [puts_l0 d (x / 128) _ k (by rw [Int.pow_succ] at h0; omega) (by rw [Int.pow_succ] at h1; omega) (by simp; omega) (by omega)]
      rw [or_u8 _ (by omega) (by omega), List.append_assoc, show x % 256 % 128 = x % 128 from by omega]
      rfl
    rw [leb_PutSigned.l0, S]
    by_cases ha : x < -64
    · rw [if_pos ha, if_pos (by omega), if_pos ha, step]
    · rw [if_neg ha, if_neg ha]
      by_cases hb : x > 63
      · rw [if_pos hb, if_pos (by omega), if_pos hb, step]
      · rw [if_neg hb, if_pos (by omega), if_neg hb, and_u8 _ (by omega) (by omega), show x % 256 % 128 = x % 128 from by omega]
theorem and127 (x : Int) : Go.bits .and .i64 x 127 = x % 128 := by
  have := and_mask x 7 (by omega) 127 (by decide)
  rw [this]; rfl
theorem or128 (y : Int) (h0 : 0 ≤ y) (h1 : y < 128) : Go.bits .or .i64 y 128 = y + 128 := by
  rw [bor_comm, or_i64 128 y 7 (by omega) (by decide) h0 h1, wrap64_eq (by omega) (by omega)]; omega
theorem pow9 : (9223372036854775808 : Int) ≤ 64 * 128 ^ 9 := by decide
theorem puts_ev (x : Int) (h0 : -9223372036854775808 ≤ x) (h1 : x < 9223372036854775808) : Ev (fun k => leb_PutSigned.f k x) (strOfNums (S 9 x)) := by
  refine ⟨10, fun k hk => ?_⟩
  show leb_PutSigned.l0 k x [] = _
  rw [puts_l0 9 _ [] k (by have := pow9; omega) (by have := pow9; omega) (by simp) (by omega)]
  rfl
/-! ### parts -/
/-- How many parts a number of so many bits has at most. -/
def mo (bits : Int) : Nat := if bits = 32 then 5 else 10
/-- The bytes from 'at' on. -/
def byt (s : ByteArray) (at_ : Int) (i : Nat) : Int := bt s (at_ + i)
theorem byt_range (s : ByteArray) (a : Int) (i : Nat) : 0 ≤ byt s a i ∧ byt s a i < 256 := by have := bt_range s (a + i); unfold byt; omega
def Fit (s : ByteArray) (a bits : Int) : Prop := (bits = 32 ∨ bits = 64) ∧ 0 ≤ a ∧ a ≤ (s.size : Int) ∧ s.size ≤ 1152921504606846976
theorem most_eq {bits : Int} (h : bits = 32 ∨ bits = 64) : leb_most.f bits = some (mo bits : Int) := by
  rcases h with rfl | rfl <;> decide +kernel
theorem parts_l0 (s : ByteArray) (a bits : Int) (hf : Fit s a bits) : ∀ (d i k : Nat), i + d = mo bits → i ≤ ((s.size : Int) - a).toNat → d < k → leb_parts.l0 k s a bits (i : Int) = some (scan (byt s a) ((s.size : Int) - a).toNat d i)
  | d, i, 0, _, _, h => by omega
  | 0, i, k + 1, h1, h2, h3 => by
    rw [leb_parts.l0, most_eq hf.1, Option.bind_some, if_neg (by omega), scan]
  | d + 1, i, k + 1, h1, h2, h3 => by
    obtain ⟨hb, h0, hs, hz⟩ := hf
    have hm : mo bits ≤ 10 := by unfold mo; split <;> omega
    have hw : wrap64 (a + i) = a + i := wrap64_eq (by omega) (by omega)
    have hw1 : wrap64 ((i : Int) + 1) = ((i + 1 : Nat) : Int) := by rw [wrap64_eq (by omega) (by omega)]; omega
    rw [leb_parts.l0, most_eq hb, Option.bind_some, if_pos (by omega), hw, hw1, scan]
    by_cases e : i = ((s.size : Int) - a).toNat
    · rw [if_pos (by omega), if_pos e]
    · rw [if_neg (by omega), if_neg e, if_pos (by omega), if_pos (by omega)]
      show (if byt s a i < 128 then _ else _) = _
      by_cases c : byt s a i < 128
      · rw [if_pos c, if_pos c]; simp
      · rw [if_neg c, if_neg c]
        exact parts_l0 s a bits ⟨hb, h0, hs, hz⟩ d (i + 1) k (by omega) (by omega) (by omega)
theorem parts_fit (s : ByteArray) (a bits : Int) (hf : Fit s a bits) : Ev (fun k => leb_parts.f k s a bits) (scan (byt s a) ((s.size : Int) - a).toNat (mo bits) 0) := by
  refine ⟨13, fun k hk => ?_⟩
  obtain ⟨k, rfl⟩ : ∃ m, k = m + 2 := ⟨k - 2, by omega⟩
  have hm : mo bits ≤ 10 := by unfold mo; split <;> omega
  have hl := parts_l0 s a bits hf (mo bits) 0 (k + 1) (by omega) (by omega) (by omega)
  obtain ⟨hb, h0, hs, hz⟩ := hf
  have hj : leb_parts.j0 (k + 2) s a bits (decide (a > (s.size : Int))) = some (scan (byt s a) ((s.size : Int) - a).toNat (mo bits) 0) := by
    rw [leb_parts.j0, if_neg (by simp; omega)]; exact hl
  show leb_parts.f (k + 2) s a bits = _
  unfold leb_parts.f
  rcases hb with rfl | rfl
  · rw [if_pos rfl, if_neg (by omega), hj]
  · rw [if_neg (by omega), if_pos rfl, if_neg (by omega), hj]
theorem parts_not (s : ByteArray) (a bits : Int) (hz : s.size ≤ 1152921504606846976) (hf : ¬ Fit s a bits) : Ev (fun k => leb_parts.f k s a bits) (0, 1200) := by
  refine ⟨13, fun k hk => ?_⟩
  obtain ⟨k, rfl⟩ : ∃ m, k = m + 2 := ⟨k - 2, by omega⟩
  have hj : leb_parts.j0 (k + 2) s a bits true = some (0, 1200) := by rw [leb_parts.j0, if_pos rfl]
  have hj' : ¬ a < 0 → (bits = 32 ∨ bits = 64) → leb_parts.j0 (k + 2) s a bits (decide (a > (s.size : Int))) = some (0, 1200) := by
    intro h1 h2
    rw [show decide (a > (s.size : Int)) = true from decide_eq_true (by
      have : ¬ (0 ≤ a ∧ a ≤ (s.size : Int)) := fun h => hf ⟨h2, h.1, h.2, hz⟩
      omega)]
    exact hj
  show leb_parts.f (k + 2) s a bits = _
  unfold leb_parts.f
  by_cases h1 : bits = 32
  · rw [if_pos h1]; by_cases h : a < 0
    · rw [if_pos h, hj]
    · rw [if_neg h, hj' h (.inl h1)]
  · rw [if_neg h1]
    by_cases h2 : bits = 64
    · rw [if_pos h2]; by_cases h : a < 0
      · rw [if_pos h, hj]
      · rw [if_neg h, hj' h (.inr h2)]
    · rw [if_neg h2, hj]
end Go.Proofs.Ytbekfmeaeaghpaa.LebFns
namespace Go.Proofs.Ytbekfmeaeaghpaa.LebGets
open Go Go.RowKit Go.Proofs.YtbekfmeaeaghpaaW.PrintWords Go.Proofs.YtbekfmeaeaghpaaW.PrintMore Go.Proofs.Ytbekfmeaeaghpaa.LebMath Go.Proofs.Ytbekfmeaeaghpaa.LebFns Go.Proofs.Ytbekfmeaeaghpaa.F

theorem pow_le9 {i : Nat} (h : i ≤ 9) : (128 : Int) ^ i ≤ 9223372036854775808 := by
  have : (128 : Nat) ^ i ≤ 128 ^ 9 := Nat.pow_le_pow_right (by omega) h
  have e : ((128 ^ i : Nat) : Int) ≤ ((128 ^ 9 : Nat) : Int) := by exact_mod_cast this
  have e9 : ((128 ^ 9 : Nat) : Int) = 9223372036854775808 := by decide
  rw [e9] at e
  have : ((128 ^ i : Nat) : Int) = (128 : Int) ^ i := by norm_cast
  omega
theorem T_small (f : Nat → Int) {i : Nat} (h : i ≤ 9) (j : Nat) : T f j i < 9223372036854775808 := by
  have := T_lt f i j; have := pow_le9 h; omega
theorem mod_wrap (x : Int) (m : Nat) (hm : m ≤ 64) : wrap64 x % ((2 ^ m : Nat) : Int) = x % ((2 ^ m : Nat) : Int) := by
  obtain ⟨q, hq⟩ := wrap64_mod x
  have hd : ((2 ^ m : Nat) : Int) ∣ 18446744073709551616 := by
    have : (2 ^ m : Nat) ∣ (2 ^ 64 : Nat) := Nat.pow_dvd_pow 2 hm
    have h2 : ((2 ^ 64 : Nat) : Int) = 18446744073709551616 := by decide
    rw [← h2]; exact_mod_cast this
  obtain ⟨c, hc⟩ := hd
  rw [hq, hc, Int.mul_assoc, Int.add_mul_emod_self_left]
theorem mul_pow_mod (d : Int) (i : Nat) : (d * 128 ^ i) % ((2 ^ (7 * i) : Nat) : Int) = 0 := by
  rw [p128]; exact Int.mul_emod_left _ _
theorem u64_mod (x : Int) (m : Nat) (hm : m ≤ 64) : (x % 18446744073709551616) % ((2 ^ m : Nat) : Int) = x % ((2 ^ m : Nat) : Int) := by
  refine Int.emod_emod_of_dvd _ ?_
  have : (2 ^ m : Nat) ∣ (2 ^ 64 : Nat) := Nat.pow_dvd_pow 2 hm
  have h2 : ((2 ^ 64 : Nat) : Int) = 18446744073709551616 := by decide
  rw [← h2]; exact_mod_cast this
theorem shl7 (k : IntKind) (hk : k.bits = 64) (d : Int) (i : Nat) (hi : i ≤ 9) : shl k d (7 * (i : Int)) = k.wrap (d * 128 ^ i) := by
  unfold shl
  rw [show (7 * (i : Int)).toNat = 7 * i from by omega, hk, Nat.min_eq_left (by omega)]
  have : (2 : Int) ^ (7 * i) = 128 ^ i := by have := p128 i; rw [← this]; norm_cast
  rw [this]

def hw (bits : Int) : Int := if bits = 32 then 16 else 2
/-- What Get answers at n parts. -/
def gres (s : ByteArray) (a bits : Int) (n : Nat) : Int × Int × Int :=
  if n = mo bits ∧ byt s a (n - 1) / hw bits ≠ 0 then (0, 0, 1200) else (wrap64 (T (byt s a) 0 n), a + n, 0)

theorem get_end (s : ByteArray) (a bits : Int) (hf : Fit s a bits) (n : Nat) (h1 : 1 ≤ n) (h2 : n ≤ mo bits) (h3 : a + n ≤ s.size) (x : Int) (hx : wrap64 x = wrap64 (T (byt s a) 0 n)) :
    ((leb_most.f bits).bind fun t104 => (if (n : Int) = t104 then (if 0 ≤ (wrap64 ((wrap64 (a + n)) - 1)) then (if (wrap64 ((wrap64 (a + n)) - 1)) < (s.size : Int) then (if 0 ≤ (wrap64 (bits - (wrap64 (7 * (wrap64 ((n : Int) - 1)))))) then (if (shr .u8 (bt s (wrap64 ((wrap64 (a + n)) - 1))) (wrap64 (bits - (wrap64 (7 * (wrap64 ((n : Int) - 1))))))) = 0 then (some (wrap64 (x), wrap64 (a + n), (0 : Int))) else (some (0, 0, 1200))) else (none)) else (none)) else (none)) else (some (wrap64 (x), wrap64 (a + n), 0)))) = some (gres s a bits n) := by
  obtain ⟨hb, h0, hs, hz⟩ := hf
  have hm : mo bits ≤ 10 := by unfold mo; split <;> omega
  have w1 : wrap64 (a + n) = a + n := wrap64_eq (by omega) (by omega)
  have w2 : wrap64 (a + n - 1) = a + n - 1 := wrap64_eq (by omega) (by omega)
  have w3 : wrap64 ((n : Int) - 1) = n - 1 := wrap64_eq (by omega) (by omega)
  have w4 : wrap64 (7 * ((n : Int) - 1)) = 7 * (n - 1) := wrap64_eq (by omega) (by omega)
  rw [most_eq hb, Option.bind_some, w1, w2, w3, w4, hx]
  unfold gres
  by_cases e : n = mo bits
  · have hbt : bt s (a + n - 1) = byt s a (n - 1) := by unfold byt; congr 1; omega
    have w5 : wrap64 (bits - 7 * ((n : Int) - 1)) = bits - 7 * ((n : Int) - 1) := wrap64_eq (by rcases hb with rfl | rfl <;> omega) (by rcases hb with rfl | rfl <;> omega)
    have hsh : shr .u8 (byt s a (n - 1)) (bits - 7 * ((n : Int) - 1)) = byt s a (n - 1) / hw bits := by
      rcases hb with rfl | rfl
      · have : n = 5 := e
        subst this; rfl
      · have : n = 10 := e
        subst this; rfl
    have hp : 0 ≤ bits - 7 * ((n : Int) - 1) := by
      rcases hb with rfl | rfl
      · have : n = 5 := e
        omega
      · have : n = 10 := e
        omega
    rw [if_pos (by omega), if_pos (by omega), if_pos (by omega), hbt, w5, if_pos hp, hsh]
    by_cases c : byt s a (n - 1) / hw bits = 0
    · rw [if_pos c, if_neg (fun h => h.2 c)]
    · rw [if_neg c, if_pos ⟨e, c⟩]
  · rw [if_neg (by omega), if_neg (fun h => e h.1)]
theorem get_l0 (s : ByteArray) (a bits : Int) (hf : Fit s a bits) (n : Nat) (h1 : 1 ≤ n) (h2 : n ≤ mo bits) (h3 : a + n ≤ s.size) : ∀ (d i k : Nat), i + d = n → d < k →
    leb_Get.l0 k s a bits n (T (byt s a) 0 i % 18446744073709551616) n i = some (gres s a bits n)
  | d, i, 0, _, h => by omega
  | 0, i, k + 1, hi, hk => by
    obtain rfl : i = n := by omega
    rw [leb_Get.l0, if_neg (by omega)]
    exact get_end s a bits hf i h1 h2 h3 _ (wrap64_idem _ _ (by omega))
  | d + 1, i, k + 1, hi, hk => by
    have hf0 := hf
    obtain ⟨hb, h0, hs, hz⟩ := hf
    have hm : mo bits ≤ 10 := by unfold mo; split <;> omega
    have w1 : wrap64 (a + i) = a + i := wrap64_eq (by omega) (by omega)
    have w2 : wrap64 (7 * (i : Int)) = 7 * i := wrap64_eq (by omega) (by omega)
    have w3 : wrap64 ((i : Int) + 1) = ((i + 1 : Nat) : Int) := by rw [wrap64_eq (by omega) (by omega)]; omega
    have hr := byt_range s a i
    have hT := T_small (byt s a) (i := i) (by omega) 0
    have hT0 := T_nonneg (byt s a) i 0
    rw [leb_Get.l0, if_pos (by omega), w1, if_pos (by omega), if_pos (by omega), w2, if_pos (by omega), w3]
    rw [show bt s (a + i) = byt s a i from rfl, and_u8 _ hr.1 hr.2, u64_eq, show byt s a i % 128 % 18446744073709551616 = byt s a i % 128 from by omega]
    rw [shl7 .u64 rfl _ i (by omega), u64_eq, show T (byt s a) 0 i % 18446744073709551616 = T (byt s a) 0 i from by omega, bor_comm]
    rw [or_u64 _ _ (7 * i) (by omega) (by rw [u64_mod _ _ (by omega)]; exact mul_pow_mod _ _) hT0 (by rw [p128]; exact T_lt _ _ _)]
    have e : (byt s a i % 128 * 128 ^ i % 18446744073709551616 + T (byt s a) 0 i) % 18446744073709551616 = T (byt s a) 0 (i + 1) % 18446744073709551616 := by
      rw [T_last, Nat.zero_add]; omega
    rw [e]
    exact get_l0 s a bits hf0 n h1 h2 h3 d (i + 1) k (by omega) (by omega)
/-- What Get answers. -/
instance (s : ByteArray) (a bits : Int) : Decidable (Fit s a bits) := by unfold Fit; exact inferInstance
def G (s : ByteArray) (a bits : Int) : Int × Int × Int :=
  if Fit s a bits then
    (if (scan (byt s a) ((s.size : Int) - a).toNat (mo bits) 0).2 = 0 then gres s a bits (scan (byt s a) ((s.size : Int) - a).toNat (mo bits) 0).1.toNat else (0, 0, (scan (byt s a) ((s.size : Int) - a).toNat (mo bits) 0).2))
  else (0, 0, 1200)
theorem scan_or (f : Nat → Int) (lim d : Nat) : (∃ n : Nat, 1 ≤ n ∧ n ≤ d ∧ n ≤ lim ∧ scan f lim d 0 = ((n : Int), 0) ∧ f (n - 1) < 128 ∧ ∀ j, j < n - 1 → 128 ≤ f j) ∨ (scan f lim d 0).2 ≠ 0 ∧ (scan f lim d 0).1 = 0 := by
  rcases scan_cases f lim d 0 (by omega) with ⟨h, _⟩ | ⟨h, _⟩ | ⟨n, _, h2, h3, h4, h5, h6⟩
  · right; rw [h]; exact ⟨by decide, rfl⟩
  · right; rw [h]; exact ⟨by decide, rfl⟩
  · exact .inl ⟨n + 1, by omega, by omega, by omega, by rw [h4]; simp, by simpa using h5, fun j hj => h6 j (by omega) (by omega)⟩
theorem G_ok {s : ByteArray} {a bits : Int} (hf : Fit s a bits) {n : Nat} (h : scan (byt s a) ((s.size : Int) - a).toNat (mo bits) 0 = ((n : Int), 0)) : G s a bits = gres s a bits n := by
  unfold G; rw [if_pos hf]; simp [h]
theorem G_err {s : ByteArray} {a bits : Int} (hf : Fit s a bits) (h : (scan (byt s a) ((s.size : Int) - a).toNat (mo bits) 0).2 ≠ 0) : G s a bits = (0, 0, (scan (byt s a) ((s.size : Int) - a).toNat (mo bits) 0).2) := by
  unfold G; rw [if_pos hf]; simp [h]
theorem G_not {s : ByteArray} {a bits : Int} (hf : ¬ Fit s a bits) : G s a bits = (0, 0, 1200) := by
  unfold G; rw [if_neg hf]
theorem get_ev (s : ByteArray) (a bits : Int) (hz : s.size ≤ 1152921504606846976) : Ev (fun k => leb_Get.f k s a bits) (G s a bits) := by
  by_cases hf : Fit s a bits
  · refine Ev.bind (parts_fit s a bits hf) ?_
    rcases scan_or (byt s a) ((s.size : Int) - a).toNat (mo bits) with ⟨n, h1, h2, h3, h4, _, _⟩ | ⟨h, _⟩
    · rw [G_ok hf h4, h4]
      refine ⟨n + 1, fun k hk => ?_⟩
      have hs := hf.2.2.1
      have h0 := hf.2.1
      have := get_l0 s a bits hf n h1 h2 (by omega) n 0 k (by omega) (by omega)
      simpa [T] using this
    · rw [G_err hf h]
      refine ⟨0, fun k _ => ?_⟩
      simp [h]
  · rw [G_not hf]
    refine Ev.bind (parts_not s a bits hz hf) ⟨0, fun k _ => rfl⟩
/-! ### the reference -/
end Go.Proofs.Ytbekfmeaeaghpaa.LebGets
namespace Go.Proofs.Ytbekfmeaeaghpaa.LebGetS
open Go Go.RowKit Go.Proofs.YtbekfmeaeaghpaaW.PrintWords Go.Proofs.YtbekfmeaeaghpaaW.PrintMore Go.Proofs.Ytbekfmeaeaghpaa.LebMath Go.Proofs.Ytbekfmeaeaghpaa.LebFns Go.Proofs.Ytbekfmeaeaghpaa.LebGets Go.Proofs.Ytbekfmeaeaghpaa.F

def hs (bits : Int) : Int := if bits = 32 then 8 else 1
def hm (bits : Int) : Int := if bits = 32 then 15 else 127
/-- The sign that the last part bears, n parts up. -/
def sg (s : ByteArray) (a : Int) (n : Nat) : Int := if byt s a (n - 1) / 64 % 2 = 1 then 128 ^ n else 0
/-- What GetSigned answers at n parts. -/
def sres (s : ByteArray) (a bits : Int) (n : Nat) : Int × Int × Int :=
  if n = mo bits ∧ byt s a (n - 1) / hs bits ≠ 0 ∧ byt s a (n - 1) / hs bits ≠ hm bits then (0, 0, 1200) else (wrap64 (T (byt s a) 0 n - sg s a n), a + n, 0)
def GS (s : ByteArray) (a bits : Int) : Int × Int × Int :=
  if Fit s a bits then
    (if (scan (byt s a) ((s.size : Int) - a).toNat (mo bits) 0).2 = 0 then sres s a bits (scan (byt s a) ((s.size : Int) - a).toNat (mo bits) 0).1.toNat else (0, 0, (scan (byt s a) ((s.size : Int) - a).toNat (mo bits) 0).2))
  else (0, 0, 1200)
theorem GS_ok {s : ByteArray} {a bits : Int} (hf : Fit s a bits) {n : Nat} (h : scan (byt s a) ((s.size : Int) - a).toNat (mo bits) 0 = ((n : Int), 0)) : GS s a bits = sres s a bits n := by
  unfold GS; rw [if_pos hf]; simp [h]
theorem GS_err {s : ByteArray} {a bits : Int} (hf : Fit s a bits) (h : (scan (byt s a) ((s.size : Int) - a).toNat (mo bits) 0).2 ≠ 0) : GS s a bits = (0, 0, (scan (byt s a) ((s.size : Int) - a).toNat (mo bits) 0).2) := by
  unfold GS; rw [if_pos hf]; simp [h]
theorem GS_not {s : ByteArray} {a bits : Int} (hf : ¬ Fit s a bits) : GS s a bits = (0, 0, 1200) := by
  unfold GS; rw [if_neg hf]
theorem and64 (b : Int) (h0 : 0 ≤ b) (h1 : b < 256) : Go.bits .and .i64 b 64 = b / 64 % 2 * 64 := by
  have h : ∀ c : Fin 256, Go.bits .and .i64 (c.val : Int) 64 = (c.val : Int) / 64 % 2 * 64 := by decide +kernel
  have := h ⟨b.toNat, by omega⟩
  simp only [Int.toNat_of_nonneg h0] at this
  exact this
theorem pow_big {n : Nat} (h : n = 10) : (128 : Int) ^ n % 18446744073709551616 = 0 := by subst h; decide
theorem gets_j2 (s : ByteArray) (a bits : Int) (hf : Fit s a bits) (n : Nat) (h1 : 1 ≤ n) (h2 : n ≤ mo bits) (h3 : a + n ≤ s.size) (x : Int) (hx : x = wrap64 (T (byt s a) 0 n - sg s a n)) (k : Nat) :
    leb_GetSigned.j2 (k + 1) a bits n x (byt s a (n - 1)) = some (sres s a bits n) := by
  obtain ⟨hb, h0, hs', hz⟩ := hf
  have hm' : mo bits ≤ 10 := by unfold mo; split <;> omega
  have hr := byt_range s a (n - 1)
  rw [leb_GetSigned.j2, most_eq hb, Option.bind_some]
  have w1 : wrap64 (a + n) = a + n := wrap64_eq (by omega) (by omega)
  have w3 : wrap64 ((n : Int) - 1) = n - 1 := wrap64_eq (by omega) (by omega)
  have w4 : wrap64 (7 * ((n : Int) - 1)) = 7 * (n - 1) := wrap64_eq (by omega) (by omega)
  have w5 : wrap64 (bits - 7 * ((n : Int) - 1)) = bits - 7 * ((n : Int) - 1) := wrap64_eq (by rcases hb with rfl | rfl <;> omega) (by rcases hb with rfl | rfl <;> omega)
  have w6 : wrap64 (bits - 7 * ((n : Int) - 1) - 1) = bits - 7 * ((n : Int) - 1) - 1 := wrap64_eq (by rcases hb with rfl | rfl <;> omega) (by rcases hb with rfl | rfl <;> omega)
  have w7 : wrap64 (8 - (bits - 7 * ((n : Int) - 1))) = 8 - (bits - 7 * ((n : Int) - 1)) := wrap64_eq (by rcases hb with rfl | rfl <;> omega) (by rcases hb with rfl | rfl <;> omega)
  rw [w3, w4, w5, w6, w7, w1, hx]
  unfold sres
  by_cases e : n = mo bits
  · have hsh : shr .i64 (byt s a (n - 1)) (bits - 7 * ((n : Int) - 1) - 1) = byt s a (n - 1) / hs bits := by
      rcases hb with rfl | rfl
      · have : n = 5 := e
        subst this; rfl
      · have : n = 10 := e
        subst this; rfl
    have hsl : wrap64 (shl .i64 1 (8 - (bits - 7 * ((n : Int) - 1))) - 1) = hm bits := by
      rcases hb with rfl | rfl
      · have : n = 5 := e
        subst this; decide +kernel
      · have : n = 10 := e
        subst this; decide +kernel
    have hp : 0 ≤ bits - 7 * ((n : Int) - 1) - 1 ∧ 0 ≤ 8 - (bits - 7 * ((n : Int) - 1)) := by
      rcases hb with rfl | rfl
      · have : n = 5 := e
        omega
      · have : n = 10 := e
        omega
    rw [if_pos (by omega), if_pos hp.1, hsh, if_pos hp.2, hsl]
    by_cases c : byt s a (n - 1) / hs bits = 0
    · rw [if_pos c, if_neg (fun h => h.2.1 c)]
    · rw [if_neg c]
      by_cases c2 : byt s a (n - 1) / hs bits = hm bits
      · rw [if_pos c2, if_neg (fun h => h.2.2 c2)]
      · rw [if_neg c2, if_pos ⟨e, c, c2⟩]
  · rw [if_neg (by omega), if_neg (fun h => e h.1)]
theorem gets_end (s : ByteArray) (a bits : Int) (hf : Fit s a bits) (n : Nat) (h1 : 1 ≤ n) (h2 : n ≤ mo bits) (h3 : a + n ≤ s.size) (k : Nat) :
    leb_GetSigned.l0 (k + 3) s a bits n (wrap64 (T (byt s a) 0 n)) n n = some (sres s a bits n) := by
  have hf0 := hf
  obtain ⟨hb, h0, hs', hz⟩ := hf
  have hm' : mo bits ≤ 10 := by unfold mo; split <;> omega
  have hr := byt_range s a (n - 1)
  have hbt : bt s (a + n - 1) = byt s a (n - 1) := by unfold byt; congr 1; omega
  have w1 : wrap64 (a + n) = a + n := wrap64_eq (by omega) (by omega)
  have w2 : wrap64 (a + n - 1) = a + n - 1 := wrap64_eq (by omega) (by omega)
  have w3 : wrap64 (7 * (n : Int)) = 7 * n := wrap64_eq (by omega) (by omega)
  rw [leb_GetSigned.l0, if_neg (by omega), w1, w2, if_pos (by omega), if_pos (by omega), hbt, wrap64_eq (x := byt s a (n - 1)) (by omega) (by omega), and64 _ hr.1 hr.2, w3]
  by_cases c : byt s a (n - 1) / 64 % 2 = 1
  · rw [if_neg (by omega), leb_GetSigned.j1]
    by_cases d : 7 * (n : Int) < 64
    · rw [if_pos (decide_eq_true d), w3, if_pos (by omega), shl7 .i64 rfl _ n (by omega), i64_eq]
      have hp := pow_le9 (i := n) (by omega)
      have hp0 := pow_pos128 n
      have ht0 := T_nonneg (byt s a) n 0
      have ht := T_lt (byt s a) n 0
      rw [bor_comm, wrap64_eq (x := T (byt s a) 0 n) (by omega) (by omega)]
      rw [or_i64 _ _ (7 * n) (by omega) (by rw [mod_wrap _ _ (by omega)]; exact mul_pow_mod _ _) ht0 (by rw [p128]; exact ht)]
      refine gets_j2 s a bits hf0 n h1 h2 h3 _ (wrap64_idem _ _ ?_) k
      obtain ⟨q, hq⟩ := wrap64_mod (-1 * 128 ^ n)
      rw [hq]
      unfold sg; rw [if_pos c]
      omega
    · rw [if_neg (by simp; omega)]
      refine gets_j2 s a bits hf0 n h1 h2 h3 _ (wrap64_idem _ _ ?_) k
      unfold sg; rw [if_pos c]
      have := pow_big (n := n) (by omega)
      omega
  · rw [if_pos (by omega), leb_GetSigned.j1, if_neg (by simp)]
    refine gets_j2 s a bits hf0 n h1 h2 h3 _ ?_ k
    unfold sg; rw [if_neg c, Int.sub_zero]
theorem gets_l0 (s : ByteArray) (a bits : Int) (hf : Fit s a bits) (n : Nat) (h1 : 1 ≤ n) (h2 : n ≤ mo bits) (h3 : a + n ≤ s.size) : ∀ (d i k : Nat), i + d = n → d + 2 < k →
    leb_GetSigned.l0 k s a bits n (wrap64 (T (byt s a) 0 i)) n i = some (sres s a bits n)
  | d, i, 0, _, h => by omega
  | 0, i, k + 1, hi, hk => by
    obtain rfl : i = n := by omega
    obtain ⟨k, rfl⟩ : ∃ m, k = m + 2 := ⟨k - 2, by omega⟩
    exact gets_end s a bits hf i h1 h2 h3 k
  | d + 1, i, k + 1, hi, hk => by
    have hf0 := hf
    obtain ⟨hb, h0, hs', hz⟩ := hf
    have hm' : mo bits ≤ 10 := by unfold mo; split <;> omega
    have w1 : wrap64 (a + i) = a + i := wrap64_eq (by omega) (by omega)
    have w2 : wrap64 (7 * (i : Int)) = 7 * i := wrap64_eq (by omega) (by omega)
    have w3 : wrap64 ((i : Int) + 1) = ((i + 1 : Nat) : Int) := by rw [wrap64_eq (by omega) (by omega)]; omega
    have hr := byt_range s a i
    have hT := T_small (byt s a) (i := i) (by omega) 0
    have hT0 := T_nonneg (byt s a) i 0
    rw [leb_GetSigned.l0, if_pos (by omega), w1, if_pos (by omega), if_pos (by omega), w2, if_pos (by omega), w3]
    rw [show bt s (a + i) = byt s a i from rfl, and_u8 _ hr.1 hr.2, wrap64_eq (x := byt s a i % 128) (by omega) (by omega)]
    rw [shl7 .i64 rfl _ i (by omega), i64_eq, wrap64_eq (x := T (byt s a) 0 i) (by omega) (by omega), bor_comm]
    rw [or_i64 _ _ (7 * i) (by omega) (by rw [mod_wrap _ _ (by omega)]; exact mul_pow_mod _ _) hT0 (by rw [p128]; exact T_lt _ _ _)]
    have e : wrap64 (wrap64 (byt s a i % 128 * 128 ^ i) + T (byt s a) 0 i) = wrap64 (T (byt s a) 0 (i + 1)) := by
      refine wrap64_idem _ _ ?_
      obtain ⟨q, hq⟩ := wrap64_mod (byt s a i % 128 * 128 ^ i)
      rw [hq, T_last, Nat.zero_add]; omega
    rw [e]
    exact gets_l0 s a bits hf0 n h1 h2 h3 d (i + 1) k (by omega) (by omega)
theorem gets_ev (s : ByteArray) (a bits : Int) (hz : s.size ≤ 1152921504606846976) : Ev (fun k => leb_GetSigned.f k s a bits) (GS s a bits) := by
  by_cases hf : Fit s a bits
  · refine Ev.bind (parts_fit s a bits hf) ?_
    rcases scan_or (byt s a) ((s.size : Int) - a).toNat (mo bits) with ⟨n, h1, h2, h3, h4, _, _⟩ | ⟨h, _⟩
    · rw [GS_ok hf h4, h4]
      refine ⟨n + 3, fun k hk => ?_⟩
      have hs := hf.2.2.1
      have h0 := hf.2.1
      have := gets_l0 s a bits hf n h1 h2 (by omega) n 0 k (by omega) (by omega)
      rw [T, show wrap64 0 = 0 from by decide +kernel] at this
      simp only [if_true]
      exact this
    · rw [GS_err hf h]
      refine ⟨0, fun k _ => ?_⟩
      simp [h]
  · rw [GS_not hf]
    refine Ev.bind (parts_not s a bits hz hf) ⟨0, fun k _ => rfl⟩

/-! ### the reference -/
theorem T_head (f : Nat → Int) (n : Nat) (h : 1 ≤ n) (hl0 : 0 ≤ f (n - 1)) (hl : f (n - 1) < 128) : T f 0 n < (f (n - 1) + 1) * 128 ^ (n - 1) ∧ f (n - 1) * 128 ^ (n - 1) ≤ T f 0 n := by
  obtain ⟨m, rfl⟩ : ∃ m, n = m + 1 := ⟨n - 1, by omega⟩
  rw [T_last, Nat.zero_add, Nat.add_sub_cancel] 
  rw [Nat.add_sub_cancel] at hl hl0
  have h1 := T_lt f m 0
  have h0 := T_nonneg f m 0
  rw [show f m % 128 = f m from by omega, Int.add_mul]
  omega
end Go.Proofs.Ytbekfmeaeaghpaa.LebGetS
namespace Go.Proofs.Ytbekfmeaeaghpaa.LebBacks
open Go Go.RowKit Go.Proofs.YtbekfmeaeaghpaaW.PrintWords Go.Proofs.YtbekfmeaeaghpaaW.PrintMore Go.Proofs.Ytbekfmeaeaghpaa.LebMath Go.Proofs.Ytbekfmeaeaghpaa.LebFns Go.Proofs.Ytbekfmeaeaghpaa.LebGets Go.Proofs.Ytbekfmeaeaghpaa.LebGetS Go.Proofs.Ytbekfmeaeaghpaa.F

def nth (ds : List Int) (i : Nat) : Int := ds.getD i 0
theorem nth_cons (c : Int) (ds : List Int) (i : Nat) : nth (c :: ds) (i + 1) = nth ds i := rfl
theorem nth_zero (c : Int) (ds : List Int) : nth (c :: ds) 0 = c := rfl
theorem T_shift (f : Nat → Int) : ∀ m j, T f (j + 1) m = T (fun i => f (i + 1)) j m
  | 0, _ => rfl
  | m + 1, j => by rw [T, T, T_shift f m (j + 1)]
theorem T_cons (c : Int) (ds : List Int) (n : Nat) : T (nth (c :: ds)) 0 (n + 1) = c % 128 + 128 * T (nth ds) 0 n := by
  rw [T, T_shift]; rfl

structure USpec (ds : List Int) (u : Int) : Prop where
  pos : 1 ≤ ds.length
  more : ∀ i, i < ds.length - 1 → 128 ≤ nth ds i
  last : nth ds (ds.length - 1) < 128
  range : ∀ i, 0 ≤ nth ds i ∧ nth ds i < 256
  val : T (nth ds) 0 ds.length = u
  lo : 1 < ds.length → 128 ^ (ds.length - 1) ≤ u
  hi : u < 128 ^ ds.length
theorem nth_out (ds : List Int) (i : Nat) (h : ds.length ≤ i) : nth ds i = 0 := by
  simp [nth, List.getD_eq_getElem?_getD, List.getElem?_eq_none h]
theorem uspec_one (u : Int) (h0 : 0 ≤ u) (h1 : u < 128) : USpec [u % 256] u := by
  have e : u % 256 = u := by omega
  rw [e]
  refine ⟨by simp, fun i hi => by simp at hi, by simpa [nth] using h1, fun i => ?_, by simp [T, nth]; omega, fun h => by simp at h, by simpa using h1⟩
  cases i with
  | zero => simp [nth]; omega
  | succ i => rw [nth_out _ _ (by simp)]; omega
theorem U_spec : ∀ (d : Nat) (u : Int), 0 ≤ u → u < 128 ^ (d + 1) → USpec (U d u) u ∧ (U d u).length ≤ d + 1
  | 0, u, h0, h1 => by rw [U]; exact ⟨uspec_one u h0 (by simpa using h1), by simp⟩
  | d + 1, u, h0, h1 => by
    rw [U]
    by_cases h : u ≥ 128
    · rw [if_pos h]
      obtain ⟨ih, il⟩ := U_spec d (u / 128) (by omega) (by rw [Int.pow_succ] at h1; omega)
      have hp := ih.pos
      refine ⟨⟨by simp, fun i hi => ?_, ?_, fun i => ?_, ?_, fun _ => ?_, ?_⟩, by simp; omega⟩
      · cases i with
        | zero => rw [nth_zero]; omega
        | succ i => rw [nth_cons]; exact ih.more i (by simp at hi; omega)
      · rw [List.length_cons, show (U d (u / 128)).length + 1 - 1 = ((U d (u / 128)).length - 1) + 1 from by omega, nth_cons]; exact ih.last
      · cases i with
        | zero => rw [nth_zero]; omega
        | succ i => rw [nth_cons]; exact ih.range i
      · rw [List.length_cons, T_cons, ih.val]; omega
      · rw [List.length_cons, Nat.add_sub_cancel]
        by_cases hl : 1 < (U d (u / 128)).length
        · have := ih.lo hl
          rw [show (U d (u / 128)).length = ((U d (u / 128)).length - 1) + 1 from by omega, Int.pow_succ]; omega
        · rw [show (U d (u / 128)).length = 1 from by omega]; omega
      · have := ih.hi
        rw [List.length_cons, Int.pow_succ]; omega
    · rw [if_neg h]; exact ⟨uspec_one u h0 (by omega), by simp⟩

structure SSpec (ds : List Int) (x : Int) : Prop where
  pos : 1 ≤ ds.length
  more : ∀ i, i < ds.length - 1 → 128 ≤ nth ds i
  last : nth ds (ds.length - 1) < 128
  range : ∀ i, 0 ≤ nth ds i ∧ nth ds i < 256
  val : T (nth ds) 0 ds.length - (if nth ds (ds.length - 1) / 64 % 2 = 1 then 128 ^ ds.length else 0) = x
  lo : 1 < ds.length → x < -(64 * 128 ^ (ds.length - 2)) ∨ 64 * 128 ^ (ds.length - 2) ≤ x
  hi : x < 64 * 128 ^ (ds.length - 1)
  hi' : -(64 * 128 ^ (ds.length - 1)) ≤ x
theorem sspec_one (x : Int) (h0 : -64 ≤ x) (h1 : x < 64) : SSpec [x % 128] x := by
  refine ⟨by simp, fun i hi => by simp at hi, by simp [nth]; omega, fun i => ?_, ?_, fun h => by simp at h, by simpa using h1, by simpa using h0⟩
  · cases i with
    | zero => simp [nth]; omega
    | succ i => rw [nth_out _ _ (by simp)]; omega
  · simp [T, nth]; split <;> omega
theorem S_spec : ∀ (d : Nat) (x : Int), -(64 * 128 ^ d) ≤ x → x < 64 * 128 ^ d → SSpec (S d x) x ∧ (S d x).length ≤ d + 1
  | 0, x, h0, h1 => by rw [S]; exact ⟨sspec_one x (by simpa using h0) (by simpa using h1), by simp⟩
  | d + 1, x, h0, h1 => by
    have step : (x < -64 ∨ 63 < x) → SSpec ((x % 128 + 128) :: S d (x / 128)) x ∧ ((x % 128 + 128) :: S d (x / 128)).length ≤ d + 1 + 1 := by
      intro hx
      obtain ⟨ih, il⟩ := S_spec d (x / 128) (by rw [Int.pow_succ] at h0; omega) (by rw [Int.pow_succ] at h1; omega)
      have hp := ih.pos
      have hlast : nth ((x % 128 + 128) :: S d (x / 128)) (((x % 128 + 128) :: S d (x / 128)).length - 1) = nth (S d (x / 128)) ((S d (x / 128)).length - 1) := by
        rw [List.length_cons, show (S d (x / 128)).length + 1 - 1 = ((S d (x / 128)).length - 1) + 1 from by omega, nth_cons]
      refine ⟨⟨by simp, fun i hi => ?_, ?_, fun i => ?_, ?_, fun _ => ?_, ?_, ?_⟩, by simp; omega⟩
      · cases i with
        | zero => rw [nth_zero]; omega
        | succ i => rw [nth_cons]; exact ih.more i (by simp at hi; omega)
      · rw [hlast]; exact ih.last
      · cases i with
        | zero => rw [nth_zero]; omega
        | succ i => rw [nth_cons]; exact ih.range i
      · have hv := ih.val
        rw [hlast, List.length_cons, T_cons, Int.pow_succ]
        split at hv <;> split <;> omega
      · rw [List.length_cons]
        by_cases hl : 1 < (S d (x / 128)).length
        · have := ih.lo hl
          rw [show (S d (x / 128)).length + 1 - 2 = ((S d (x / 128)).length - 2) + 1 from by omega, Int.pow_succ]; omega
        · rw [show (S d (x / 128)).length = 1 from by omega]; simp; omega
      · have := ih.hi
        rw [List.length_cons, show (S d (x / 128)).length + 1 - 1 = ((S d (x / 128)).length - 1) + 1 from by omega, Int.pow_succ]; omega
      · have := ih.hi'
        rw [List.length_cons, show (S d (x / 128)).length + 1 - 1 = ((S d (x / 128)).length - 1) + 1 from by omega, Int.pow_succ]; omega
    rw [S]
    by_cases ha : x < -64
    · rw [if_pos ha]; exact step (.inl ha)
    · rw [if_neg ha]
      by_cases hb : x > 63
      · rw [if_pos hb]; exact step (.inr hb)
      · rw [if_neg hb]; exact ⟨sspec_one x (by omega) (by omega), by simp⟩

/-! ### bytes -/
theorem bt_append (s t : ByteArray) (i : Nat) : bt (s ++ t) (i : Int) = if i < s.size then bt s (i : Int) else bt t ((i - s.size : Nat) : Int) := by
  unfold bt
  simp only [Int.toNat_natCast]
  by_cases h : i < s.size
  · rw [if_pos h, dif_pos h, dif_pos (by rw [ByteArray.size_append]; omega), ByteArray.getElem_append_left h]
  · rw [if_neg h]
    by_cases h2 : i < (s ++ t).size
    · rw [dif_pos h2, dif_pos (by rw [ByteArray.size_append] at h2; omega), ByteArray.getElem_append_right (by omega)]
    · rw [dif_neg h2, dif_neg (by rw [ByteArray.size_append] at h2; omega)]
theorem size_str (ds : List Int) : (strOfNums ds).size = ds.length := by
  simp [strOfNums, ByteArray.size]
theorem bt_str (ds : List Int) (i : Nat) (h : 0 ≤ nth ds i ∧ nth ds i < 256) : bt (strOfNums ds) (i : Int) = nth ds i := by
  unfold bt
  simp only [Int.toNat_natCast]
  by_cases hi : i < ds.length
  · rw [dif_pos (by rw [size_str]; exact hi)]
    have e : (strOfNums ds)[i]'(by rw [size_str]; exact hi) = UInt8.ofNat (ds[i].toNat) := by
      simp [strOfNums, ByteArray.getElem_eq_getElem_data]
    rw [e]
    have e2 : nth ds i = ds[i] := by unfold nth; rw [List.getD_eq_getElem?_getD, List.getElem?_eq_getElem hi]; rfl
    rw [e2] at h ⊢
    rw [UInt8.toNat_ofNat']
    omega
  · rw [dif_neg (by rw [size_str]; exact hi), nth_out _ _ (by omega)]
/-- The bytes ds stand in s from a on. -/
def At (s : ByteArray) (a : Int) (ds : List Int) : Prop := 0 ≤ a ∧ a + ds.length ≤ s.size ∧ s.size ≤ 1152921504606846976 ∧ ∀ i, i < ds.length → byt s a i = nth ds i
theorem at_mid (p q : ByteArray) (ds : List Int) (hr : ∀ i, 0 ≤ nth ds i ∧ nth ds i < 256) (hz : (p ++ strOfNums ds ++ q).size ≤ 1152921504606846976) : At (p ++ strOfNums ds ++ q) p.size ds := by
  refine ⟨by omega, by simp only [ByteArray.size_append, size_str]; omega, hz, fun i hi => ?_⟩
  unfold byt
  rw [show (p.size : Int) + (i : Int) = ((p.size + i : Nat) : Int) from by omega, bt_append, if_pos (by rw [ByteArray.size_append, size_str]; omega), bt_append, if_neg (by omega), show p.size + i - p.size = i from by omega]
  exact bt_str ds i (hr i)
theorem scan_at {s : ByteArray} {a : Int} {ds : List Int} (h : At s a ds) (hp : 1 ≤ ds.length) (hm : ∀ i, i < ds.length - 1 → 128 ≤ nth ds i) (hl : nth ds (ds.length - 1) < 128) {m : Nat} (hlen : ds.length ≤ m) :
    scan (byt s a) ((s.size : Int) - a).toNat m 0 = ((ds.length : Int), 0) := by
  obtain ⟨h0, h1, _, h2⟩ := h
  rw [scan_ok (byt s a) _ m 0 (ds.length - 1) (by omega) (by omega) (by omega) (by rw [h2 _ (by omega)]; exact hl) (fun j _ hj => by rw [h2 _ (by omega)]; exact hm j hj)]
  congr 1; omega
theorem T_at {s : ByteArray} {a : Int} {ds : List Int} (h : At s a ds) : T (byt s a) 0 ds.length = T (nth ds) 0 ds.length :=
  T_congr _ _ _ _ fun i _ hi => h.2.2.2 i (by omega)
theorem last_u {ds : List Int} {u : Int} (h : USpec ds u) : nth ds (ds.length - 1) = u / 128 ^ (ds.length - 1) := by
  have hv := h.val
  have hp := h.pos
  obtain ⟨m, hm⟩ : ∃ m, ds.length = m + 1 := ⟨ds.length - 1, by omega⟩
  have hl := h.last
  have hr := h.range (ds.length - 1)
  rw [hm, Nat.add_sub_cancel] at hl hr ⊢
  rw [hm, T_last, Nat.zero_add] at hv
  have h0 := T_nonneg (nth ds) m 0
  have h1 := T_lt (nth ds) m 0
  have hp0 := pow_pos128 m
  rw [← hv, show nth ds m % 128 = nth ds m from by omega, Int.add_mul_ediv_right _ _ (by omega), Int.ediv_eq_zero_of_lt h0 h1]
  omega
/-- Get reads what Put has laid. -/
theorem get_u {s : ByteArray} {a bits u : Int} {ds : List Int} (h : At s a ds) (hu : USpec ds u) (hb : bits = 32 ∧ u < 4294967296 ∨ bits = 64 ∧ u < 18446744073709551616) (hlen : ds.length ≤ mo bits) : G s a bits = (wrap64 u, a + ds.length, 0) := by
  have hf : Fit s a bits := ⟨by omega, h.1, by have := h.2.1; omega, h.2.2.1⟩
  have hp := hu.pos
  rw [G_ok hf (scan_at h hp hu.more hu.last hlen)]
  unfold gres
  have hlast : byt s a (ds.length - 1) = u / 128 ^ (ds.length - 1) := by rw [h.2.2.2 _ (by omega)]; exact last_u hu
  rw [if_neg, T_at h, hu.val]
  rintro ⟨e, hne⟩
  apply hne
  rw [hlast]
  have hu0 : 0 ≤ u := by rw [← hu.val]; exact T_nonneg _ _ _
  rcases hb with ⟨rfl, hb⟩ | ⟨rfl, hb⟩
  · have e5 : ds.length = 5 := e
    rw [e5]
    have p4 : (128 : Int) ^ (5 - 1) = 268435456 := by decide
    have hh : hw 32 = 16 := rfl
    rw [p4, hh]; omega
  · have e10 : ds.length = 10 := e
    rw [e10]
    have p9 : (128 : Int) ^ (10 - 1) = 9223372036854775808 := by decide
    have hh : hw 64 = 2 := rfl
    rw [p9, hh]; omega
theorem len_u32 {ds : List Int} {u : Int} (hu : USpec ds u) (h : u < 4294967296) : ds.length ≤ 5 := by
  by_cases c : 1 < ds.length
  · have := hu.lo c
    rcases Nat.lt_or_ge 5 ds.length with h6 | h6
    · have : (128 : Int) ^ 5 ≤ 128 ^ (ds.length - 1) := by
        have h7 : (128 : Nat) ^ 5 ≤ 128 ^ (ds.length - 1) := Nat.pow_le_pow_right (by omega) (by omega)
        exact_mod_cast h7
      have p5 : (128 : Int) ^ 5 = 34359738368 := by decide
      omega
    · exact h6
  · omega
theorem last_s {ds : List Int} {x : Int} (h : SSpec ds x) : nth ds (ds.length - 1) = (x / 128 ^ (ds.length - 1)) % 128 := by
  have hv := h.val
  have hp := h.pos
  obtain ⟨m, hm⟩ : ∃ m, ds.length = m + 1 := ⟨ds.length - 1, by omega⟩
  have hl := h.last
  have hr := h.range (ds.length - 1)
  rw [hm, Nat.add_sub_cancel] at hl hr ⊢
  rw [hm, T_last, Nat.zero_add, Nat.add_sub_cancel, Int.pow_succ] at hv
  have h0 := T_nonneg (nth ds) m 0
  have h1 := T_lt (nth ds) m 0
  have hp0 := pow_pos128 m
  have e : x = T (nth ds) 0 m + (nth ds m - (if nth ds m / 64 % 2 = 1 then 128 else 0)) * 128 ^ m := by
    rw [← hv, show nth ds m % 128 = nth ds m from by omega, Int.sub_mul]
    split
    · rw [Int.mul_comm 128]; omega
    · omega
  rw [e, Int.add_mul_ediv_right _ _ (by omega), Int.ediv_eq_zero_of_lt h0 h1]
  split <;> omega
theorem gets_s {s : ByteArray} {a bits x : Int} {ds : List Int} (h : At s a ds) (hu : SSpec ds x) (hb : bits = 32 ∧ -2147483648 ≤ x ∧ x < 2147483648 ∨ bits = 64 ∧ -9223372036854775808 ≤ x ∧ x < 9223372036854775808) (hlen : ds.length ≤ mo bits) : GS s a bits = (x, a + ds.length, 0) := by
  have hf : Fit s a bits := ⟨by omega, h.1, by have := h.2.1; omega, h.2.2.1⟩
  have hp := hu.pos
  rw [GS_ok hf (scan_at h hp hu.more hu.last hlen)]
  have hat : byt s a (ds.length - 1) = nth ds (ds.length - 1) := h.2.2.2 _ (by omega)
  have hlast := last_s hu
  unfold sres
  have hsg : T (byt s a) 0 ds.length - sg s a ds.length = x := by
    unfold sg; rw [T_at h, hat]; exact hu.val
  rw [if_neg, hsg, wrap64_eq (by omega) (by omega)]
  rintro ⟨e, hne, hne2⟩
  rw [hat, hlast] at hne hne2
  rcases hb with ⟨rfl, hb⟩ | ⟨rfl, hb⟩
  · have e5 : ds.length = 5 := e
    have p4 : (128 : Int) ^ (5 - 1) = 268435456 := by decide
    have hh : hs 32 = 8 ∧ hm 32 = 15 := ⟨rfl, rfl⟩
    rw [e5, p4, hh.1] at hne hne2
    rw [hh.2] at hne2
    omega
  · have e10 : ds.length = 10 := e
    have p9 : (128 : Int) ^ (10 - 1) = 9223372036854775808 := by decide
    have hh : hs 64 = 1 ∧ hm 64 = 127 := ⟨rfl, rfl⟩
    rw [e10, p9, hh.1] at hne hne2
    rw [hh.2] at hne2
    omega
theorem len_s32 {ds : List Int} {x : Int} (hu : SSpec ds x) (h : -2147483648 ≤ x ∧ x < 2147483648) : ds.length ≤ 5 := by
  by_cases c : 1 < ds.length
  · have := hu.lo c
    rcases Nat.lt_or_ge 5 ds.length with h6 | h6
    · have : (128 : Int) ^ 4 ≤ 128 ^ (ds.length - 2) := by
        have h7 : (128 : Nat) ^ 4 ≤ 128 ^ (ds.length - 2) := Nat.pow_le_pow_right (by omega) (by omega)
        exact_mod_cast h7
      have p4 : (128 : Int) ^ 4 = 268435456 := by decide
      omega
    · exact h6
  · omega
theorem U9 (u : Int) (h0 : 0 ≤ u) (h1 : u < 18446744073709551616) : USpec (U 9 u) u ∧ (U 9 u).length ≤ 10 := U_spec 9 u h0 (by have := pow10; omega)
theorem S9 (x : Int) (h0 : -9223372036854775808 ≤ x) (h1 : x < 9223372036854775808) : SSpec (S 9 x) x ∧ (S 9 x).length ≤ 10 := S_spec 9 x (by have := pow9; omega) (by have := pow9; omega)
end Go.Proofs.Ytbekfmeaeaghpaa.LebBacks
