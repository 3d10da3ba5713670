/-
  What Get and GetSigned, and their references, come to.
-/
import Derived.Test.YtflejniglhjbfaaDoorLebFns
namespace Go.Proofs.YtflejniglhjbfaaDoor.LebGets
open Go Go.RowKit Go.Proofs.YtflejniglhjbfaaDoorW.PrintWords Go.Proofs.YtflejniglhjbfaaDoorW.PrintMore Go.Proofs.YtflejniglhjbfaaDoor.LebMath Go.Proofs.YtflejniglhjbfaaDoor.LebFns Go.Proofs.YtflejniglhjbfaaDoor.F

theorem pow_le9 {i : Nat} (h : i ≤ 9) : (128 : Int) ^ i ≤ 9223372036854775808 := by
  have : (128 : Nat) ^ i ≤ 128 ^ 9 := Nat.pow_le_pow_right (by omega) h
  have e : ((128 ^ i : Nat) : Int) ≤ ((128 ^ 9 : Nat) : Int) := by exact_mod_cast this
  have e9 : ((128 ^ 9 : Nat) : Int) = 9223372036854775808 := by decide
  rw [e9] at e
  have : ((128 ^ i : Nat) : Int) = (128 : Int) ^ i := by norm_cast
  omega
theorem T_small (f : Nat → Int) {i : Nat} (h : i ≤ 9) (j : Nat) : T f j i < 9223372036854775808 := by
  have := T_lt f i j; have := pow_le9 h; omega
theorem mod_wrap (x : Int) (m : Nat) (hm : m ≤ 64) : wrap64 x % ((2 ^ m : Nat) : Int) = x % ((2 ^ m : Nat) : Int) := by
  obtain ⟨q, hq⟩ := wrap64_mod x
  have hd : ((2 ^ m : Nat) : Int) ∣ 18446744073709551616 := by
    have : (2 ^ m : Nat) ∣ (2 ^ 64 : Nat) := Nat.pow_dvd_pow 2 hm
    have h2 : ((2 ^ 64 : Nat) : Int) = 18446744073709551616 := by decide
    rw [← h2]; exact_mod_cast this
  obtain ⟨c, hc⟩ := hd
  rw [hq, hc, Int.mul_assoc, Int.add_mul_emod_self_left]
theorem mul_pow_mod (d : Int) (i : Nat) : (d * 128 ^ i) % ((2 ^ (7 * i) : Nat) : Int) = 0 := by
  rw [p128]; exact Int.mul_emod_left _ _
theorem u64_mod (x : Int) (m : Nat) (hm : m ≤ 64) : (x % 18446744073709551616) % ((2 ^ m : Nat) : Int) = x % ((2 ^ m : Nat) : Int) := by
  refine Int.emod_emod_of_dvd _ ?_
  have : (2 ^ m : Nat) ∣ (2 ^ 64 : Nat) := Nat.pow_dvd_pow 2 hm
  have h2 : ((2 ^ 64 : Nat) : Int) = 18446744073709551616 := by decide
  rw [← h2]; exact_mod_cast this
theorem shl7 (k : IntKind) (hk : k.bits = 64) (d : Int) (i : Nat) (hi : i ≤ 9) : shl k d (7 * (i : Int)) = k.wrap (d * 128 ^ i) := by
  unfold shl
  rw [show (7 * (i : Int)).toNat = 7 * i from by omega, hk, Nat.min_eq_left (by omega)]
  have : (2 : Int) ^ (7 * i) = 128 ^ i := by have := p128 i; rw [← this]; norm_cast
  rw [this]

def hw (bits : Int) : Int := if bits = 32 then 16 else 2
/-- What Get answers at n parts. -/
def gres (s : ByteArray) (a bits : Int) (n : Nat) : Int × Int × Int :=
  if n = mo bits ∧ byt s a (n - 1) / hw bits ≠ 0 then (0, 0, 1200) else (wrap64 (T (byt s a) 0 n), a + n, 0)

theorem get_end (s : ByteArray) (a bits : Int) (hf : Fit s a bits) (n : Nat) (h1 : 1 ≤ n) (h2 : n ≤ mo bits) (h3 : a + n ≤ s.size) (x : Int) (hx : wrap64 x = wrap64 (T (byt s a) 0 n)) :
    ((leb_most.f bits).bind fun t104 => (if (n : Int) = t104 then (if 0 ≤ (wrap64 ((wrap64 (a + n)) - 1)) then (if (wrap64 ((wrap64 (a + n)) - 1)) < (s.size : Int) then (if 0 ≤ (wrap64 (bits - (wrap64 (7 * (wrap64 ((n : Int) - 1)))))) then (if (shr .u8 (bt s (wrap64 ((wrap64 (a + n)) - 1))) (wrap64 (bits - (wrap64 (7 * (wrap64 ((n : Int) - 1))))))) = 0 then (some (wrap64 (x), wrap64 (a + n), (0 : Int))) else (some (0, 0, 1200))) else (none)) else (none)) else (none)) else (some (wrap64 (x), wrap64 (a + n), 0)))) = some (gres s a bits n) := by
  obtain ⟨hb, h0, hs, hz⟩ := hf
  have hm : mo bits ≤ 10 := by unfold mo; split <;> omega
  have w1 : wrap64 (a + n) = a + n := wrap64_eq (by omega) (by omega)
  have w2 : wrap64 (a + n - 1) = a + n - 1 := wrap64_eq (by omega) (by omega)
  have w3 : wrap64 ((n : Int) - 1) = n - 1 := wrap64_eq (by omega) (by omega)
  have w4 : wrap64 (7 * ((n : Int) - 1)) = 7 * (n - 1) := wrap64_eq (by omega) (by omega)
  rw [most_eq hb, Option.bind_some, w1, w2, w3, w4, hx]
  unfold gres
  by_cases e : n = mo bits
  · have hbt : bt s (a + n - 1) = byt s a (n - 1) := by unfold byt; congr 1; omega
    have w5 : wrap64 (bits - 7 * ((n : Int) - 1)) = bits - 7 * ((n : Int) - 1) := wrap64_eq (by rcases hb with rfl | rfl <;> omega) (by rcases hb with rfl | rfl <;> omega)
    have hsh : shr .u8 (byt s a (n - 1)) (bits - 7 * ((n : Int) - 1)) = byt s a (n - 1) / hw bits := by
      rcases hb with rfl | rfl
      · have : n = 5 := e
        subst this; rfl
      · have : n = 10 := e
        subst this; rfl
    have hp : 0 ≤ bits - 7 * ((n : Int) - 1) := by
      rcases hb with rfl | rfl
      · have : n = 5 := e
        omega
      · have : n = 10 := e
        omega
    rw [if_pos (by omega), if_pos (by omega), if_pos (by omega), hbt, w5, if_pos hp, hsh]
    by_cases c : byt s a (n - 1) / hw bits = 0
    · rw [if_pos c, if_neg (fun h => h.2 c)]
    · rw [if_neg c, if_pos ⟨e, c⟩]
  · rw [if_neg (by omega), if_neg (fun h => e h.1)]
theorem get_l0 (s : ByteArray) (a bits : Int) (hf : Fit s a bits) (n : Nat) (h1 : 1 ≤ n) (h2 : n ≤ mo bits) (h3 : a + n ≤ s.size) : ∀ (d i k : Nat), i + d = n → d < k →
    leb_Get.l0 k s a bits n (T (byt s a) 0 i % 18446744073709551616) n i = some (gres s a bits n)
  | d, i, 0, _, h => by omega
  | 0, i, k + 1, hi, hk => by
    obtain rfl : i = n := by omega
    rw [leb_Get.l0, if_neg (by omega)]
    exact get_end s a bits hf i h1 h2 h3 _ (wrap64_idem _ _ (by omega))
  | d + 1, i, k + 1, hi, hk => by
    have hf0 := hf
    obtain ⟨hb, h0, hs, hz⟩ := hf
    have hm : mo bits ≤ 10 := by unfold mo; split <;> omega
    have w1 : wrap64 (a + i) = a + i := wrap64_eq (by omega) (by omega)
    have w2 : wrap64 (7 * (i : Int)) = 7 * i := wrap64_eq (by omega) (by omega)
    have w3 : wrap64 ((i : Int) + 1) = ((i + 1 : Nat) : Int) := by rw [wrap64_eq (by omega) (by omega)]; omega
    have hr := byt_range s a i
    have hT := T_small (byt s a) (i := i) (by omega) 0
    have hT0 := T_nonneg (byt s a) i 0
    rw [leb_Get.l0, if_pos (by omega), w1, if_pos (by omega), if_pos (by omega), w2, if_pos (by omega), w3]
    rw [show bt s (a + i) = byt s a i from rfl, and_u8 _ hr.1 hr.2, u64_eq, show byt s a i % 128 % 18446744073709551616 = byt s a i % 128 from by omega]
    rw [shl7 .u64 rfl _ i (by omega), u64_eq, show T (byt s a) 0 i % 18446744073709551616 = T (byt s a) 0 i from by omega, bor_comm]
    rw [or_u64 _ _ (7 * i) (by omega) (by rw [u64_mod _ _ (by omega)]; exact mul_pow_mod _ _) hT0 (by rw [p128]; exact T_lt _ _ _)]
    have e : (byt s a i % 128 * 128 ^ i % 18446744073709551616 + T (byt s a) 0 i) % 18446744073709551616 = T (byt s a) 0 (i + 1) % 18446744073709551616 := by
      rw [T_last, Nat.zero_add]; omega
    rw [e]
    exact get_l0 s a bits hf0 n h1 h2 h3 d (i + 1) k (by omega) (by omega)
/-- What Get answers. -/
instance (s : ByteArray) (a bits : Int) : Decidable (Fit s a bits) := by unfold Fit; exact inferInstance
def G (s : ByteArray) (a bits : Int) : Int × Int × Int :=
  if Fit s a bits then
    (if (scan (byt s a) ((s.size : Int) - a).toNat (mo bits) 0).2 = 0 then gres s a bits (scan (byt s a) ((s.size : Int) - a).toNat (mo bits) 0).1.toNat else (0, 0, (scan (byt s a) ((s.size : Int) - a).toNat (mo bits) 0).2))
  else (0, 0, 1200)
theorem scan_or (f : Nat → Int) (lim d : Nat) : (∃ n : Nat, 1 ≤ n ∧ n ≤ d ∧ n ≤ lim ∧ scan f lim d 0 = ((n : Int), 0) ∧ f (n - 1) < 128 ∧ ∀ j, j < n - 1 → 128 ≤ f j) ∨ (scan f lim d 0).2 ≠ 0 ∧ (scan f lim d 0).1 = 0 := by
  rcases scan_cases f lim d 0 (by omega) with ⟨h, _⟩ | ⟨h, _⟩ | ⟨n, _, h2, h3, h4, h5, h6⟩
  · right; rw [h]; exact ⟨by decide, rfl⟩
  · right; rw [h]; exact ⟨by decide, rfl⟩
  · exact .inl ⟨n + 1, by omega, by omega, by omega, by rw [h4]; simp, by simpa using h5, fun j hj => h6 j (by omega) (by omega)⟩
theorem G_ok {s : ByteArray} {a bits : Int} (hf : Fit s a bits) {n : Nat} (h : scan (byt s a) ((s.size : Int) - a).toNat (mo bits) 0 = ((n : Int), 0)) : G s a bits = gres s a bits n := by
  unfold G; rw [if_pos hf]; simp [h]
theorem G_err {s : ByteArray} {a bits : Int} (hf : Fit s a bits) (h : (scan (byt s a) ((s.size : Int) - a).toNat (mo bits) 0).2 ≠ 0) : G s a bits = (0, 0, (scan (byt s a) ((s.size : Int) - a).toNat (mo bits) 0).2) := by
  unfold G; rw [if_pos hf]; simp [h]
theorem G_not {s : ByteArray} {a bits : Int} (hf : ¬ Fit s a bits) : G s a bits = (0, 0, 1200) := by
  unfold G; rw [if_neg hf]
theorem get_ev (s : ByteArray) (a bits : Int) (hz : s.size ≤ 140737488355328) : Ev (fun k => leb_Get.f k s a bits) (G s a bits) := by
  by_cases hf : Fit s a bits
  · refine Ev.bind (parts_fit s a bits hf) ?_
    rcases scan_or (byt s a) ((s.size : Int) - a).toNat (mo bits) with ⟨n, h1, h2, h3, h4, _, _⟩ | ⟨h, _⟩
    · rw [G_ok hf h4, h4]
      refine ⟨n + 1, fun k hk => ?_⟩
      have hs := hf.2.2.1
      have h0 := hf.2.1
      have := get_l0 s a bits hf n h1 h2 (by omega) n 0 k (by omega) (by omega)
      simpa [T] using this
    · rw [G_err hf h]
      refine ⟨0, fun k _ => ?_⟩
      simp [h]
  · rw [G_not hf]
    refine Ev.bind (parts_not s a bits hz hf) ⟨0, fun k _ => rfl⟩
/-! ### the reference -/
theorem unleb_l0 (s : ByteArray) (a bits : Int) (hf : Fit s a bits) (n : Nat) (h3 : a + n ≤ s.size) (hn : n ≤ 10) : ∀ (j m k : Nat), j + m = n → j < k →
    pelorusref12_Unleb.l0 k s a (a + n - 1) (wrap64 (T (byt s a) j m)) (a + j - 1) = some (wrap64 (T (byt s a) 0 n), a + n, 0)
  | j, m, 0, _, h => by omega
  | 0, m, k + 1, hj, hk => by
    obtain rfl : m = n := by omega
    obtain ⟨hb, h0, hs, hz⟩ := hf
    rw [pelorusref12_Unleb.l0, if_neg (by omega), wrap64_eq (x := a + m - 1 + 1) (by omega) (by omega), show a + (m : Int) - 1 + 1 = a + m from by omega]
  | j + 1, m, k + 1, hj, hk => by
    have hf0 := hf
    obtain ⟨hb, h0, hs, hz⟩ := hf
    have hr := byt_range s a j
    have e : a + ((j + 1 : Nat) : Int) - 1 = a + j := by omega
    rw [e, pelorusref12_Unleb.l0, if_pos (by omega), if_pos (by omega), if_pos (by omega), show bt s (a + j) = byt s a j from rfl, and_u8 _ hr.1 hr.2]
    rw [wrap64_eq (x := byt s a j % 128) (by omega) (by omega), or_i64 _ _ 7 (by omega) (by rw [mod_wrap _ _ (by omega)]; show _ % 128 = 0; omega) (by omega) (by show _ < 128; omega)]
    have e2 : wrap64 (wrap64 (wrap64 (T (byt s a) (j + 1) m) * 128) + byt s a j % 128) = wrap64 (T (byt s a) j (m + 1)) := by
      refine wrap64_idem _ _ ?_
      rw [T]
      obtain ⟨q, hq⟩ := wrap64_mod (wrap64 (T (byt s a) (j + 1) m) * 128)
      obtain ⟨q', hq'⟩ := wrap64_mod (T (byt s a) (j + 1) m)
      rw [hq, hq']
      omega
    rw [e2, wrap64_eq (x := a + j - 1) (by omega) (by omega)]
    exact unleb_l0 s a bits hf0 n h3 hn j (m + 1) k (by omega) (by omega)
theorem unleb_j0 (s : ByteArray) (a bits : Int) (hf : Fit s a bits) (n : Nat) (h1 : 1 ≤ n) (h3 : a + n ≤ s.size) (hn : n ≤ 10) (k : Nat) (hk : 13 ≤ k) : pelorusref12_Unleb.j0 k s a (a + n - 1) false = some (wrap64 (T (byt s a) 0 n), a + n, 0) := by
  obtain ⟨k, rfl⟩ : ∃ m, k = m + 1 := ⟨k - 1, by omega⟩
  rw [pelorusref12_Unleb.j0, if_neg (by simp)]
  have := unleb_l0 s a bits hf n h3 hn n 0 k (by omega) (by omega)
  rw [T, show wrap64 0 = 0 from by decide +kernel] at this
  exact this
theorem unleb_ev (s : ByteArray) (a bits : Int) (hz : s.size ≤ 140737488355328) : Ev (fun k => pelorusref12_Unleb.f k s a bits) (G s a bits) := by
  by_cases hf : Fit s a bits
  · refine Ev.bind (rparts_fit s a bits hf) ?_
    rcases scan_or (byt s a) ((s.size : Int) - a).toNat (mo bits) with ⟨n, h1, h2, h3, h4, h5, _⟩ | ⟨h, _⟩
    · rw [G_ok hf h4, h4]
      refine ⟨13, fun k hk => ?_⟩
      have hf0 := hf
      obtain ⟨hb, h0, hs, _⟩ := hf
      have hm : mo bits ≤ 10 := by unfold mo; split <;> omega
      have hmo : wrap64 (Int.tdiv (wrap64 (bits + 6)) 7) = (mo bits : Int) := by rcases hb with rfl | rfl <;> decide +kernel
      have hn : a + n ≤ s.size := by omega
      have hj := unleb_j0 s a bits hf0 n h1 hn (by omega) k hk
      simp only [sc, if_true]
      rw [hmo, wrap64_eq (x := a + n - 1 - a) (by omega) (by omega), wrap64_eq (x := (mo bits : Int) - 1) (by omega) (by omega)]
      unfold gres
      by_cases e : n = mo bits
      · have hbt : bt s (a + n - 1) = byt s a (n - 1) := by unfold byt; congr 1; omega
        have hr := byt_range s a (n - 1)
        have ht : 0 ≤ Int.tmod bits 7 := by rcases hb with rfl | rfl <;> decide
        have hsh : shr .i64 (byt s a (n - 1)) (Int.tmod bits 7) = byt s a (n - 1) / hw bits := by rcases hb with rfl | rfl <;> rfl
        rw [if_pos (by omega), if_pos (by omega), if_pos (by omega), if_pos ht, hbt, wrap64_eq (x := byt s a (n - 1)) (by omega) (by omega), hsh]
        by_cases c : byt s a (n - 1) / hw bits = 0
        · rw [if_neg (fun h => h.2 c), c]; exact hj
        · rw [if_pos ⟨e, c⟩]
          obtain ⟨k, rfl⟩ : ∃ m, k = m + 1 := ⟨k - 1, by omega⟩
          rw [show (byt s a (n - 1) / hw bits != 0) = true from bne_iff_ne.2 c, pelorusref12_Unleb.j0, if_pos rfl]
      · rw [if_neg (by omega), if_neg (fun h => e h.1)]; exact hj
    · rw [G_err hf h]
      refine ⟨0, fun k _ => ?_⟩
      simp [h, sc]
  · rw [G_not hf]
    refine Ev.bind (rparts_not s a bits hz hf) ⟨0, fun k _ => rfl⟩
end Go.Proofs.YtflejniglhjbfaaDoor.LebGets
