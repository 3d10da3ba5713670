/-
  LebSizes: as few parts as hold a number; too many are refused. Conditions: none.
-/
import Derived.Test.YtflejniglhjbfaaLebBacks
import Derived.Test.YtflejniglhjbfaaFx4
namespace Go.Proofs.Ytflejniglhjbfaa.Pure
open Go.RowKit Go.Proofs.Ytflejniglhjbfaa.F Go.Proofs.YtflejniglhjbfaaW.PrintWords Go.Proofs.YtflejniglhjbfaaW.PrintLast Go.Proofs.YtflejniglhjbfaaW.PrintMore Go.Proofs.Ytflejniglhjbfaa.LebMath Go.Proofs.Ytflejniglhjbfaa.LebFns Go.Proofs.Ytflejniglhjbfaa.LebGets Go.Proofs.Ytflejniglhjbfaa.LebGetS Go.Proofs.Ytflejniglhjbfaa.LebBacks

theorem awake_evZ : Ev (fun k => peloruslaw12_awake.f k) true := Ev.of peloruslaw12_awake.mono (k := 20) (by decide +kernel)
theorem long32 (c : Int) (h0 : 0 ≤ c) (h1 : c < 128) : Ev (fun k => leb_Get.f k ((⟨#[128, 128, 128, 128, 128]⟩ : ByteArray) ++ (strOfNums [c])) 0 32) (0, 0, 1200) := by
  have h : ∀ c : Fin 128, leb_Get.f 20 ((⟨#[128, 128, 128, 128, 128]⟩ : ByteArray) ++ (strOfNums [(c.val : Int)])) 0 32 = some (0, 0, 1200) := by decide +kernel
  have := h ⟨c.toNat, by omega⟩
  simp only [Int.toNat_of_nonneg h0] at this
  exact Ev.of (leb_Get.mono _ _ _) this
theorem long64 (c : Int) (h0 : 0 ≤ c) (h1 : c < 128) : Ev (fun k => leb_Get.f k ((⟨#[128, 128, 128, 128, 128]⟩ : ByteArray) ++ (strOfNums [c])) 0 64) (c * 34359738368, 6, 0) := by
  have h : ∀ c : Fin 128, leb_Get.f 20 ((⟨#[128, 128, 128, 128, 128]⟩ : ByteArray) ++ (strOfNums [(c.val : Int)])) 0 64 = some ((c.val : Int) * 34359738368, 6, 0) := by decide +kernel
  have := h ⟨c.toNat, by omega⟩
  simp only [Int.toNat_of_nonneg h0] at this
  exact Ev.of (leb_Get.mono _ _ _) this
theorem wide32 (c : Int) (h0 : 16 ≤ c) (h1 : c < 128) : Ev (fun k => leb_Get.f k ((⟨#[128, 128, 128, 128]⟩ : ByteArray) ++ (strOfNums [c])) 0 32) (0, 0, 1200) := by
  have h : ∀ c : Fin 112, leb_Get.f 20 ((⟨#[128, 128, 128, 128]⟩ : ByteArray) ++ (strOfNums [(c.val : Int) + 16])) 0 32 = some (0, 0, 1200) := by decide +kernel
  have := h ⟨(c - 16).toNat, by omega⟩
  simp only [Int.toNat_of_nonneg (show 0 ≤ c - 16 by omega), show c - 16 + 16 = c from by omega] at this
  exact Ev.of (leb_Get.mono _ _ _) this
theorem and111 (x : Int) : 0 ≤ Go.bits .and .i64 x 111 ∧ Go.bits .and .i64 x 111 ≤ 111 := by
  have e : Go.bits .and .i64 x 111 = wrap64 (((BitVec.ofInt 64 x &&& BitVec.ofInt 64 111).toNat : Nat) : Int) := by
    show IntKind.i64.wrap (((BitVec.ofInt 64 x &&& BitVec.ofInt 64 111).toNat : Nat) : Int) = _
    rw [i64_eq]
  rw [e, BitVec.toNat_and]
  have h : (BitVec.ofInt 64 111).toNat = 111 := by decide
  rw [h]
  have := Nat.and_le_right (n := (BitVec.ofInt 64 x).toNat) (m := 111)
  rw [wrap64_eq (by omega) (by omega)]
  omega
theorem p2lt {a b : Nat} (h : (2 : Int) ^ a < 2 ^ b) : a < b := by
  rcases Nat.lt_or_ge a b with h1 | h1
  · exact h1
  · have : (2 : Nat) ^ b ≤ 2 ^ a := Nat.pow_le_pow_right (by omega) h1
    have : ((2 ^ b : Nat) : Int) ≤ ((2 ^ a : Nat) : Int) := by exact_mod_cast this
    rw [Int.natCast_pow, Int.natCast_pow] at this
    have e : ((2 : Nat) : Int) = 2 := rfl
    rw [e] at this; omega
theorem p2le {a b : Nat} (h : (2 : Int) ^ a ≤ 2 ^ b) : a ≤ b := by
  rcases Nat.lt_or_ge b a with h1 | h1
  · have : (2 : Nat) ^ b < 2 ^ a := Nat.pow_lt_pow_right (by omega) h1
    have : ((2 ^ b : Nat) : Int) < ((2 ^ a : Nat) : Int) := by exact_mod_cast this
    rw [Int.natCast_pow, Int.natCast_pow] at this
    have e : ((2 : Nat) : Int) = 2 := rfl
    rw [e] at this; omega
  · exact h1
theorem p128' (i : Nat) : (128 : Int) ^ i = 2 ^ (7 * i) := by rw [← p128]; norm_cast
theorem p64' (i : Nat) : 64 * (128 : Int) ^ i = 2 ^ (6 + 7 * i) := by
  rw [p128', Int.pow_add]; rfl
theorem len_u (b : Nat) (hb : b ≤ 62) : (U 9 (2 ^ b)).length = b / 7 + 1 := by
  have hb0 : (0 : Int) < 2 ^ b := Int.pow_pos (by decide)
  have hb1 : (2 : Int) ^ b < 18446744073709551616 := by
    have : (2 : Nat) ^ b ≤ 2 ^ 62 := Nat.pow_le_pow_right (by omega) hb
    have : ((2 ^ b : Nat) : Int) ≤ ((2 ^ 62 : Nat) : Int) := by exact_mod_cast this
    rw [Int.natCast_pow] at this
    have e : ((2 : Nat) : Int) = 2 := rfl
    have e2 : ((2 ^ 62 : Nat) : Int) = 4611686018427387904 := by decide
    rw [e, e2] at this; omega
  obtain ⟨hu, _⟩ := U9 (2 ^ b) (by omega) hb1
  have hi := hu.hi
  rw [p128'] at hi
  have h1 := p2lt hi
  have hp := hu.pos
  by_cases c : 1 < (U 9 (2 ^ b)).length
  · have lo := hu.lo c
    rw [p128'] at lo
    have h2 := p2le lo
    omega
  · omega
theorem len_s (b : Nat) (hb : b ≤ 62) : (S 9 (2 ^ b)).length = (b + 1) / 7 + 1 ∧ (S 9 (-(2 ^ b))).length = b / 7 + 1 := by
  have hb0 : (0 : Int) < 2 ^ b := Int.pow_pos (by decide)
  have hb1 : (2 : Int) ^ b < 9223372036854775808 := by
    have : (2 : Nat) ^ b ≤ 2 ^ 62 := Nat.pow_le_pow_right (by omega) hb
    have : ((2 ^ b : Nat) : Int) ≤ ((2 ^ 62 : Nat) : Int) := by exact_mod_cast this
    rw [Int.natCast_pow] at this
    have e : ((2 : Nat) : Int) = 2 := rfl
    have e2 : ((2 ^ 62 : Nat) : Int) = 4611686018427387904 := by decide
    rw [e, e2] at this; omega
  constructor
  · obtain ⟨hu, _⟩ := S9 (2 ^ b) (by omega) hb1
    have hi := hu.hi
    rw [p64'] at hi
    have h1 := p2lt hi
    have hp := hu.pos
    by_cases c : 1 < (S 9 (2 ^ b)).length
    · have lo := hu.lo c
      rw [p64'] at lo
      have hq : (0 : Int) < 2 ^ (6 + 7 * ((S 9 (2 ^ b)).length - 2)) := Int.pow_pos (by decide)
      have h2 := p2le (lo.resolve_left (by omega))
      omega
    · omega
  · obtain ⟨hu, _⟩ := S9 (-(2 ^ b)) (by omega) (by omega)
    have hi := hu.hi'
    rw [p64'] at hi
    have h1 := p2le (show (2 : Int) ^ b ≤ 2 ^ (6 + 7 * ((S 9 (-(2 ^ b))).length - 1)) by omega)
    have hp := hu.pos
    by_cases c : 1 < (S 9 (-(2 ^ b))).length
    · have lo := hu.lo c
      rw [p64'] at lo
      have hq : (0 : Int) < 2 ^ (6 + 7 * ((S 9 (-(2 ^ b))).length - 2)) := Int.pow_pos (by decide)
      have h2 := p2lt (show (2 : Int) ^ (6 + 7 * ((S 9 (-(2 ^ b))).length - 2)) < 2 ^ b by omega)
      omega
    · omega
theorem w16 {y : Int} (h : 0 ≤ y ∧ y ≤ 111) : wrap64 (16 + y) = 16 + y := wrap64_eq (by omega) (by omega)
theorem mod16 {y : Int} (h : 0 ≤ y ∧ y ≤ 111) : (16 + y) % 256 = 16 + y := by omega
theorem wneg {y : Int} (h0 : 0 < y) (h1 : y ≤ 4611686018427387904) : wrap64 (-y) = -y := wrap64_eq (by omega) (by omega)
theorem wdiv (b : Nat) (h : b ≤ 63) : wrap64 (((b / 7 : Nat) : Int) + 1) = ((b / 7 : Nat) : Int) + 1 := wrap64_eq (by omega) (by omega)
theorem wmul (y : Int) : wrap64 (y % 128 * 34359738368) = y % 128 * 34359738368 := wrap64_eq (by omega) (by omega)
theorem mod_mod (y : Int) : y % 128 % 256 = y % 128 := by omega
theorem LebSizes : peloruslaw12_LebSizes.Pure := by
  intro x low _ _
  refine Ev.rounds (g := fun k => peloruslaw12_LebSizes.f k x low) ?_
  unfold peloruslaw12_LebSizes.f
  have e63 : wrap64 (Int.tmod (IntKind.u64.wrap x) 63) = x % 18446744073709551616 % 63 := by
    rw [u64_eq, Int.tmod_eq_emod_of_nonneg (by omega), wrap64_eq (by omega) (by omega)]
  obtain ⟨b, hb⟩ : ∃ b : Nat, x % 18446744073709551616 % 63 = (b : Int) := ⟨(x % 18446744073709551616 % 63).toNat, by omega⟩
  have hb62 : b ≤ 62 := by omega
  have hb0 : (0 : Int) < 2 ^ b := Int.pow_pos (by decide)
  have hb1 : (2 : Int) ^ b ≤ 4611686018427387904 := by
    have : (2 : Nat) ^ b ≤ 2 ^ 62 := Nat.pow_le_pow_right (by omega) hb62
    have : ((2 ^ b : Nat) : Int) ≤ ((2 ^ 62 : Nat) : Int) := by exact_mod_cast this
    rw [Int.natCast_pow] at this
    have e : ((2 : Nat) : Int) = 2 := rfl
    have e2 : ((2 ^ 62 : Nat) : Int) = 4611686018427387904 := by decide
    rw [e, e2] at this; omega
  have esh : shl .i64 1 (b : Int) = 2 ^ b := by
    have e : IntKind.i64.bits = 64 := rfl
    unfold shl
    rw [Int.toNat_natCast, e, Nat.min_eq_left (by omega), i64_eq, Int.one_mul, wrap64_eq (by omega) (by omega)]
  have ha := and127 low
  have h111 := and111 low
  have l1 := len_u b hb62
  obtain ⟨l2, l3⟩ := len_s b hb62
  have p1 := put_ev ((2 : Int) ^ b)
  rw [show (2 : Int) ^ b % 18446744073709551616 = 2 ^ b from by omega] at p1
  have p2 := puts_ev ((2 : Int) ^ b) (by omega) (by omega)
  have p3 := puts_ev (-(2 : Int) ^ b) (by omega) (by omega)
  have t1 : wrap64 (Int.tdiv (b : Int) 7) = ((b / 7 : Nat) : Int) := by
    rw [Int.tdiv_eq_ediv_of_nonneg (by omega), wrap64_eq (by omega) (by omega)]; omega
  have t2 : wrap64 (Int.tdiv (wrap64 ((b : Int) + 1)) 7) = (((b + 1) / 7 : Nat) : Int) := by
    rw [wrap64_eq (x := (b : Int) + 1) (by omega) (by omega), Int.tdiv_eq_ediv_of_nonneg (by omega), wrap64_eq (by omega) (by omega)]; omega
  refine Ev.bind awake_evZ ?_
  simp only [if_true, e63, hb, esh, ha, t1, t2, Option.bind_some]
  have w1 := w16 h111
  have w2 := wneg hb0 hb1
  have w3 := wdiv b (by omega)
  have w4 := wdiv (b + 1) (by omega)
  have w5 := wmul low
  have w6 := mod_mod low
  have w7 := mod16 h111
  have m1 : ((U 9 (2 ^ b)).length : Int) = ((b / 7 : Nat) : Int) + 1 := by rw [l1]; rfl
  have m2 : ((S 9 (2 ^ b)).length : Int) = (((b + 1) / 7 : Nat) : Int) + 1 := by rw [l2]; rfl
  have m3 : ((S 9 (-2 ^ b)).length : Int) = ((b / 7 : Nat) : Int) + 1 := by rw [l3]; rfl
  simp only [w1, w2, w3, w4, w5, w6, w7]
  simp only [if_pos (show (0 : Int) ≤ (b : Int) by omega), size_str, List.length_singleton, if_pos (show 5 + 1 ≤ 9223372036854775807 by omega), if_pos (show 4 + 1 ≤ 9223372036854775807 by omega)]
  refine Ev.bind (long32 _ (by omega) (by omega)) (Ev.bind (long64 _ (by omega) (by omega)) (Ev.bind (wide32 _ (by omega) (by omega)) (Ev.bind p1 ?_)))
  simp only [size_str]
  simp only [m1, if_true]
  refine Ev.bind p2 ?_
  simp only [size_str]
  simp only [m2, if_true]
  refine Ev.bind p3 ?_
  simp only [size_str]
  simp only [m3, if_true]
  simp only [if_true, peloruslaw0_Num.f, Option.bind_some]
  exact Ev.now true

end Go.Proofs.Ytflejniglhjbfaa.Pure
