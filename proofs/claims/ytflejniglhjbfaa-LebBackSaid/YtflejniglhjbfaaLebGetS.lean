/-
  What GetSigned and its reference come to.
-/
import Derived.Test.YtflejniglhjbfaaLebGets
namespace Go.Proofs.Ytflejniglhjbfaa.LebGetS
open Go Go.RowKit Go.Proofs.YtflejniglhjbfaaW.PrintWords Go.Proofs.YtflejniglhjbfaaW.PrintMore Go.Proofs.Ytflejniglhjbfaa.LebMath Go.Proofs.Ytflejniglhjbfaa.LebFns Go.Proofs.Ytflejniglhjbfaa.LebGets Go.Proofs.Ytflejniglhjbfaa.F

def hs (bits : Int) : Int := if bits = 32 then 8 else 1
def hm (bits : Int) : Int := if bits = 32 then 15 else 127
/-- The sign that the last part bears, n parts up. -/
def sg (s : ByteArray) (a : Int) (n : Nat) : Int := if byt s a (n - 1) / 64 % 2 = 1 then 128 ^ n else 0
/-- What GetSigned answers at n parts. -/
def sres (s : ByteArray) (a bits : Int) (n : Nat) : Int × Int × Int :=
  if n = mo bits ∧ byt s a (n - 1) / hs bits ≠ 0 ∧ byt s a (n - 1) / hs bits ≠ hm bits then (0, 0, 1200) else (wrap64 (T (byt s a) 0 n - sg s a n), a + n, 0)
def GS (s : ByteArray) (a bits : Int) : Int × Int × Int :=
  if Fit s a bits then
    (if (scan (byt s a) ((s.size : Int) - a).toNat (mo bits) 0).2 = 0 then sres s a bits (scan (byt s a) ((s.size : Int) - a).toNat (mo bits) 0).1.toNat else (0, 0, (scan (byt s a) ((s.size : Int) - a).toNat (mo bits) 0).2))
  else (0, 0, 1200)
theorem GS_ok {s : ByteArray} {a bits : Int} (hf : Fit s a bits) {n : Nat} (h : scan (byt s a) ((s.size : Int) - a).toNat (mo bits) 0 = ((n : Int), 0)) : GS s a bits = sres s a bits n := by
  unfold GS; rw [if_pos hf]; simp [h]
theorem GS_err {s : ByteArray} {a bits : Int} (hf : Fit s a bits) (h : (scan (byt s a) ((s.size : Int) - a).toNat (mo bits) 0).2 ≠ 0) : GS s a bits = (0, 0, (scan (byt s a) ((s.size : Int) - a).toNat (mo bits) 0).2) := by
  unfold GS; rw [if_pos hf]; simp [h]
theorem GS_not {s : ByteArray} {a bits : Int} (hf : ¬ Fit s a bits) : GS s a bits = (0, 0, 1200) := by
  unfold GS; rw [if_neg hf]
theorem and64 (b : Int) (h0 : 0 ≤ b) (h1 : b < 256) : Go.bits .and .i64 b 64 = b / 64 % 2 * 64 := by
  have h : ∀ c : Fin 256, Go.bits .and .i64 (c.val : Int) 64 = (c.val : Int) / 64 % 2 * 64 := by decide +kernel
  have := h ⟨b.toNat, by omega⟩
  simp only [Int.toNat_of_nonneg h0] at this
  exact this
theorem pow_big {n : Nat} (h : n = 10) : (128 : Int) ^ n % 18446744073709551616 = 0 := by subst h; decide
theorem gets_j2 (s : ByteArray) (a bits : Int) (hf : Fit s a bits) (n : Nat) (h1 : 1 ≤ n) (h2 : n ≤ mo bits) (h3 : a + n ≤ s.size) (x : Int) (hx : x = wrap64 (T (byt s a) 0 n - sg s a n)) (k : Nat) :
    leb_GetSigned.j2 (k + 1) a bits n x (byt s a (n - 1)) = some (sres s a bits n) := by
  obtain ⟨hb, h0, hs', hz⟩ := hf
  have hm' : mo bits ≤ 10 := by unfold mo; split <;> omega
  have hr := byt_range s a (n - 1)
  rw [leb_GetSigned.j2, most_eq hb, Option.bind_some]
  have w1 : wrap64 (a + n) = a + n := wrap64_eq (by omega) (by omega)
  have w3 : wrap64 ((n : Int) - 1) = n - 1 := wrap64_eq (by omega) (by omega)
  have w4 : wrap64 (7 * ((n : Int) - 1)) = 7 * (n - 1) := wrap64_eq (by omega) (by omega)
  have w5 : wrap64 (bits - 7 * ((n : Int) - 1)) = bits - 7 * ((n : Int) - 1) := wrap64_eq (by rcases hb with rfl | rfl <;> omega) (by rcases hb with rfl | rfl <;> omega)
  have w6 : wrap64 (bits - 7 * ((n : Int) - 1) - 1) = bits - 7 * ((n : Int) - 1) - 1 := wrap64_eq (by rcases hb with rfl | rfl <;> omega) (by rcases hb with rfl | rfl <;> omega)
  have w7 : wrap64 (8 - (bits - 7 * ((n : Int) - 1))) = 8 - (bits - 7 * ((n : Int) - 1)) := wrap64_eq (by rcases hb with rfl | rfl <;> omega) (by rcases hb with rfl | rfl <;> omega)
  rw [w3, w4, w5, w6, w7, w1, hx]
  unfold sres
  by_cases e : n = mo bits
  · have hsh : shr .i64 (byt s a (n - 1)) (bits - 7 * ((n : Int) - 1) - 1) = byt s a (n - 1) / hs bits := by
      rcases hb with rfl | rfl
      · have : n = 5 := e
        subst this; rfl
      · have : n = 10 := e
        subst this; rfl
    have hsl : wrap64 (shl .i64 1 (8 - (bits - 7 * ((n : Int) - 1))) - 1) = hm bits := by
      rcases hb with rfl | rfl
      · have : n = 5 := e
        subst this; decide +kernel
      · have : n = 10 := e
        subst this; decide +kernel
    have hp : 0 ≤ bits - 7 * ((n : Int) - 1) - 1 ∧ 0 ≤ 8 - (bits - 7 * ((n : Int) - 1)) := by
      rcases hb with rfl | rfl
      · have : n = 5 := e
        omega
      · have : n = 10 := e
        omega
    rw [if_pos (by omega), if_pos hp.1, hsh, if_pos hp.2, hsl]
    by_cases c : byt s a (n - 1) / hs bits = 0
    · rw [if_pos c, if_neg (fun h => h.2.1 c)]
    · rw [if_neg c]
      by_cases c2 : byt s a (n - 1) / hs bits = hm bits
      · rw [if_pos c2, if_neg (fun h => h.2.2 c2)]
      · rw [if_neg c2, if_pos ⟨e, c, c2⟩]
  · rw [if_neg (by omega), if_neg (fun h => e h.1)]
theorem gets_end (s : ByteArray) (a bits : Int) (hf : Fit s a bits) (n : Nat) (h1 : 1 ≤ n) (h2 : n ≤ mo bits) (h3 : a + n ≤ s.size) (k : Nat) :
    leb_GetSigned.l0 (k + 3) s a bits n (wrap64 (T (byt s a) 0 n)) n n = some (sres s a bits n) := by
  have hf0 := hf
  obtain ⟨hb, h0, hs', hz⟩ := hf
  have hm' : mo bits ≤ 10 := by unfold mo; split <;> omega
  have hr := byt_range s a (n - 1)
  have hbt : bt s (a + n - 1) = byt s a (n - 1) := by unfold byt; congr 1; omega
  have w1 : wrap64 (a + n) = a + n := wrap64_eq (by omega) (by omega)
  have w2 : wrap64 (a + n - 1) = a + n - 1 := wrap64_eq (by omega) (by omega)
  have w3 : wrap64 (7 * (n : Int)) = 7 * n := wrap64_eq (by omega) (by omega)
  rw [leb_GetSigned.l0, if_neg (by omega), w1, w2, if_pos (by omega), if_pos (by omega), hbt, wrap64_eq (x := byt s a (n - 1)) (by omega) (by omega), and64 _ hr.1 hr.2, w3]
  by_cases c : byt s a (n - 1) / 64 % 2 = 1
  · rw [if_neg (by omega), leb_GetSigned.j1]
    by_cases d : 7 * (n : Int) < 64
    · rw [if_pos (decide_eq_true d), w3, if_pos (by omega), shl7 .i64 rfl _ n (by omega), i64_eq]
      have hp := pow_le9 (i := n) (by omega)
      have hp0 := pow_pos128 n
      have ht0 := T_nonneg (byt s a) n 0
      have ht := T_lt (byt s a) n 0
      rw [bor_comm, wrap64_eq (x := T (byt s a) 0 n) (by omega) (by omega)]
      rw [or_i64 _ _ (7 * n) (by omega) (by rw [mod_wrap _ _ (by omega)]; exact mul_pow_mod _ _) ht0 (by rw [p128]; exact ht)]
      refine gets_j2 s a bits hf0 n h1 h2 h3 _ (wrap64_idem _ _ ?_) k
      obtain ⟨q, hq⟩ := wrap64_mod (-1 * 128 ^ n)
      rw [hq]
      unfold sg; rw [if_pos c]
      omega
    · rw [if_neg (by simp; omega)]
      refine gets_j2 s a bits hf0 n h1 h2 h3 _ (wrap64_idem _ _ ?_) k
      unfold sg; rw [if_pos c]
      have := pow_big (n := n) (by omega)
      omega
  · rw [if_pos (by omega), leb_GetSigned.j1, if_neg (by simp)]
    refine gets_j2 s a bits hf0 n h1 h2 h3 _ ?_ k
    unfold sg; rw [if_neg c, Int.sub_zero]
theorem gets_l0 (s : ByteArray) (a bits : Int) (hf : Fit s a bits) (n : Nat) (h1 : 1 ≤ n) (h2 : n ≤ mo bits) (h3 : a + n ≤ s.size) : ∀ (d i k : Nat), i + d = n → d + 2 < k →
    leb_GetSigned.l0 k s a bits n (wrap64 (T (byt s a) 0 i)) n i = some (sres s a bits n)
  | d, i, 0, _, h => by omega
  | 0, i, k + 1, hi, hk => by
    obtain rfl : i = n := by omega
    obtain ⟨k, rfl⟩ : ∃ m, k = m + 2 := ⟨k - 2, by omega⟩
    exact gets_end s a bits hf i h1 h2 h3 k
  | d + 1, i, k + 1, hi, hk => by
    have hf0 := hf
    obtain ⟨hb, h0, hs', hz⟩ := hf
    have hm' : mo bits ≤ 10 := by unfold mo; split <;> omega
    have w1 : wrap64 (a + i) = a + i := wrap64_eq (by omega) (by omega)
    have w2 : wrap64 (7 * (i : Int)) = 7 * i := wrap64_eq (by omega) (by omega)
    have w3 : wrap64 ((i : Int) + 1) = ((i + 1 : Nat) : Int) := by rw [wrap64_eq (by omega) (by omega)]; omega
    have hr := byt_range s a i
    have hT := T_small (byt s a) (i := i) (by omega) 0
    have hT0 := T_nonneg (byt s a) i 0
    rw [leb_GetSigned.l0, if_pos (by omega), w1, if_pos (by omega), if_pos (by omega), w2, if_pos (by omega), w3]
    rw [show bt s (a + i) = byt s a i from rfl, and_u8 _ hr.1 hr.2, wrap64_eq (x := byt s a i % 128) (by omega) (by omega)]
    rw [shl7 .i64 rfl _ i (by omega), i64_eq, wrap64_eq (x := T (byt s a) 0 i) (by omega) (by omega), bor_comm]
    rw [or_i64 _ _ (7 * i) (by omega) (by rw [mod_wrap _ _ (by omega)]; exact mul_pow_mod _ _) hT0 (by rw [p128]; exact T_lt _ _ _)]
    have e : wrap64 (wrap64 (byt s a i % 128 * 128 ^ i) + T (byt s a) 0 i) = wrap64 (T (byt s a) 0 (i + 1)) := by
      refine wrap64_idem _ _ ?_
      obtain ⟨q, hq⟩ := wrap64_mod (byt s a i % 128 * 128 ^ i)
      rw [hq, T_last, Nat.zero_add]; omega
    rw [e]
    exact gets_l0 s a bits hf0 n h1 h2 h3 d (i + 1) k (by omega) (by omega)
theorem gets_ev (s : ByteArray) (a bits : Int) (hz : s.size ≤ 140737488355328) : Ev (fun k => leb_GetSigned.f k s a bits) (GS s a bits) := by
  by_cases hf : Fit s a bits
  · refine Ev.bind (parts_fit s a bits hf) ?_
    rcases scan_or (byt s a) ((s.size : Int) - a).toNat (mo bits) with ⟨n, h1, h2, h3, h4, _, _⟩ | ⟨h, _⟩
    · rw [GS_ok hf h4, h4]
      refine ⟨n + 3, fun k hk => ?_⟩
      have hs := hf.2.2.1
      have h0 := hf.2.1
      have := gets_l0 s a bits hf n h1 h2 (by omega) n 0 k (by omega) (by omega)
      rw [T, show wrap64 0 = 0 from by decide +kernel] at this
      simp only [if_true]
      exact this
    · rw [GS_err hf h]
      refine ⟨0, fun k _ => ?_⟩
      simp [h]
  · rw [GS_not hf]
    refine Ev.bind (parts_not s a bits hz hf) ⟨0, fun k _ => rfl⟩

/-! ### the reference -/
theorem sign_small (x : Int) (h0 : -2147483648 ≤ x) (h1 : x < 2147483648) : pelorusref1_Sign.f x = some x := by
  unfold pelorusref1_Sign.f pelorusref1_Low.f
  have hm : Go.bits .and .i64 x 4294967295 = x % 4294967296 := by
    have := and_mask x 32 (by omega) 4294967295 (by decide)
    rw [this]; rfl
  rw [hm, Option.bind_some]
  by_cases c : x % 4294967296 ≥ 2147483648
  · rw [if_pos c, wrap64_eq (by omega) (by omega)]; congr 1; omega
  · rw [if_neg c]; congr 1; omega
theorem unsleb_l0 (s : ByteArray) (a bits : Int) (hf : Fit s a bits) (n : Nat) (h3 : a + n ≤ s.size) (hn : n ≤ 10) (c : Int) (hfin : bits = 32 → -2147483648 ≤ wrap64 (c * 128 ^ n + T (byt s a) 0 n) ∧ wrap64 (c * 128 ^ n + T (byt s a) 0 n) < 2147483648) : ∀ (j m k : Nat), j + m = n → j < k →
    pelorusref12_Unsleb.l0 k s a bits (a + n - 1) (wrap64 (c * 128 ^ m + T (byt s a) j m)) (a + j - 1) = some (wrap64 (c * 128 ^ n + T (byt s a) 0 n), a + n, 0)
  | j, m, 0, _, h => by omega
  | 0, m, k + 1, hj, hk => by
    obtain rfl : m = n := by omega
    obtain ⟨hb, h0, hs, hz⟩ := hf
    rw [pelorusref12_Unsleb.l0, if_neg (by omega), wrap64_eq (x := a + m - 1 + 1) (by omega) (by omega), show a + (m : Int) - 1 + 1 = a + m from by omega]
    by_cases e : bits = 32
    · rw [if_pos e, sign_small _ (hfin e).1 (hfin e).2]; rfl
    · rw [if_neg e]
  | j + 1, m, k + 1, hj, hk => by
    have hf0 := hf
    obtain ⟨hb, h0, hs, hz⟩ := hf
    have hr := byt_range s a j
    have e : a + ((j + 1 : Nat) : Int) - 1 = a + j := by omega
    rw [e, pelorusref12_Unsleb.l0, if_pos (by omega), if_pos (by omega), if_pos (by omega), show bt s (a + j) = byt s a j from rfl, and_u8 _ hr.1 hr.2]
    rw [wrap64_eq (x := byt s a j % 128) (by omega) (by omega), or_i64 _ _ 7 (by omega) (by rw [mod_wrap _ _ (by omega)]; show _ % 128 = 0; omega) (by omega) (by show _ < 128; omega)]
    have e2 : wrap64 (wrap64 (wrap64 (c * 128 ^ m + T (byt s a) (j + 1) m) * 128) + byt s a j % 128) = wrap64 (c * 128 ^ (m + 1) + T (byt s a) j (m + 1)) := by
      refine wrap64_idem _ _ ?_
      rw [T, Int.pow_succ, ← Int.mul_assoc]
      obtain ⟨q, hq⟩ := wrap64_mod (wrap64 (c * 128 ^ m + T (byt s a) (j + 1) m) * 128)
      obtain ⟨q', hq'⟩ := wrap64_mod (c * 128 ^ m + T (byt s a) (j + 1) m)
      rw [hq, hq']
      omega
    rw [e2, wrap64_eq (x := a + j - 1) (by omega) (by omega)]
    exact unsleb_l0 s a bits hf0 n h3 hn c hfin j (m + 1) k (by omega) (by omega)
theorem T_head (f : Nat → Int) (n : Nat) (h : 1 ≤ n) (hl0 : 0 ≤ f (n - 1)) (hl : f (n - 1) < 128) : T f 0 n < (f (n - 1) + 1) * 128 ^ (n - 1) ∧ f (n - 1) * 128 ^ (n - 1) ≤ T f 0 n := by
  obtain ⟨m, rfl⟩ : ∃ m, n = m + 1 := ⟨n - 1, by omega⟩
  rw [T_last, Nat.zero_add, Nat.add_sub_cancel] 
  rw [Nat.add_sub_cancel] at hl hl0
  have h1 := T_lt f m 0
  have h0 := T_nonneg f m 0
  rw [show f m % 128 = f m from by omega, Int.add_mul]
  omega
theorem sres_small (s : ByteArray) (a : Int) (n : Nat) (h1 : 1 ≤ n) (h2 : n ≤ mo 32) (hl : byt s a (n - 1) < 128) (hno : ¬ (n = mo 32 ∧ byt s a (n - 1) / hs 32 ≠ 0 ∧ byt s a (n - 1) / hs 32 ≠ hm 32)) :
    -2147483648 ≤ T (byt s a) 0 n - sg s a n ∧ T (byt s a) 0 n - sg s a n < 2147483648 := by
  have hr := byt_range s a (n - 1)
  have ht := T_head (byt s a) n h1 hr.1 hl
  have hm5 : mo 32 = 5 := rfl
  unfold sg
  by_cases e : n = 5
  · subst e
    have hh : hs 32 = 8 ∧ hm 32 = 15 := ⟨rfl, rfl⟩
    rw [hh.1, hh.2] at hno
    simp only [Nat.add_one_sub_one] at *
    have p4 : (128 : Int) ^ 4 = 268435456 := by decide
    have p5 : (128 : Int) ^ 5 = 34359738368 := by decide
    rw [p4] at ht
    rw [p5]
    have hno' : byt s a 4 / 8 = 0 ∨ byt s a 4 / 8 = 15 := by omega
    split <;> omega
  · have hp : n = 1 ∨ n = 2 ∨ n = 3 ∨ n = 4 := by omega
    have ht0 := T_nonneg (byt s a) n 0
    have htl := T_lt (byt s a) n 0
    have hpow : (128 : Int) ^ n ≤ 268435456 := by
      rcases hp with rfl | rfl | rfl | rfl <;> decide
    split <;> omega
theorem unsleb_j0 (s : ByteArray) (a bits : Int) (hf : Fit s a bits) (n : Nat) (h1 : 1 ≤ n) (h2 : n ≤ mo bits) (h3 : a + n ≤ s.size) (hl : byt s a (n - 1) < 128) (hno : ¬ (n = mo bits ∧ byt s a (n - 1) / hs bits ≠ 0 ∧ byt s a (n - 1) / hs bits ≠ hm bits)) (k : Nat) (hk : 14 ≤ k) :
    pelorusref12_Unsleb.j0 k s a bits (a + n - 1) (byt s a (n - 1)) = some (wrap64 (T (byt s a) 0 n - sg s a n), a + n, 0) := by
  obtain ⟨k, rfl⟩ : ∃ m, k = m + 2 := ⟨k - 2, by omega⟩
  have hr := byt_range s a (n - 1)
  have hm' : mo bits ≤ 10 := by unfold mo; split <;> omega
  have hsm : bits = 32 → -2147483648 ≤ T (byt s a) 0 n - sg s a n ∧ T (byt s a) 0 n - sg s a n < 2147483648 := by
    intro e; subst e; exact sres_small s a n h1 h2 hl hno
  rw [pelorusref12_Unsleb.j0, and64 _ hr.1 hr.2]
  by_cases c : byt s a (n - 1) / 64 % 2 = 1
  · have hsg : sg s a n = 128 ^ n := by unfold sg; rw [if_pos c]
    rw [if_pos (by omega), pelorusref12_Unsleb.j1]
    have e : T (byt s a) 0 n - sg s a n = -1 * 128 ^ n + T (byt s a) 0 n := by rw [hsg]; omega
    rw [e] at hsm ⊢
    have := unsleb_l0 s a bits hf n h3 (by omega) (-1) (fun hb => by have := hsm hb; rw [wrap64_eq (by omega) (by omega)]; exact this) n 0 k (by omega) (by omega)
    rw [T, show wrap64 (-1 * 128 ^ 0 + 0) = -1 from by decide +kernel] at this
    exact this
  · have hsg : sg s a n = 0 := by unfold sg; rw [if_neg c]
    rw [if_neg (by omega), pelorusref12_Unsleb.j1]
    have e : T (byt s a) 0 n - sg s a n = 0 * 128 ^ n + T (byt s a) 0 n := by rw [hsg]; omega
    rw [e] at hsm ⊢
    have := unsleb_l0 s a bits hf n h3 (by omega) 0 (fun hb => by have := hsm hb; rw [wrap64_eq (by omega) (by omega)]; exact this) n 0 k (by omega) (by omega)
    rw [T, show wrap64 (0 * 128 ^ 0 + 0) = 0 from by decide +kernel] at this
    exact this
theorem unsleb_ev (s : ByteArray) (a bits : Int) (hz : s.size ≤ 140737488355328) : Ev (fun k => pelorusref12_Unsleb.f k s a bits) (GS s a bits) := by
  by_cases hf : Fit s a bits
  · refine Ev.bind (rparts_fit s a bits hf) ?_
    rcases scan_or (byt s a) ((s.size : Int) - a).toNat (mo bits) with ⟨n, h1, h2, h3, h4, h5, _⟩ | ⟨h, _⟩
    · rw [GS_ok hf h4, h4]
      refine ⟨14, fun k hk => ?_⟩
      have hf0 := hf
      obtain ⟨hb, h0, hs', _⟩ := hf
      have hm' : mo bits ≤ 10 := by unfold mo; split <;> omega
      have hmo : wrap64 (Int.tdiv (wrap64 (bits + 6)) 7) = (mo bits : Int) := by rcases hb with rfl | rfl <;> decide +kernel
      have hn : a + n ≤ s.size := by omega
      have hj := fun hno => unsleb_j0 s a bits hf0 n h1 h2 hn h5 hno k hk
      have hbt : bt s (a + n - 1) = byt s a (n - 1) := by unfold byt; congr 1; omega
      have hr := byt_range s a (n - 1)
      simp only [sc, if_true]
      rw [hmo, wrap64_eq (x := a + n - 1 - a) (by omega) (by omega), wrap64_eq (x := (mo bits : Int) - 1) (by omega) (by omega)]
      rw [if_pos (by omega), if_pos (by omega), hbt, wrap64_eq (x := byt s a (n - 1)) (by omega) (by omega)]
      unfold sres
      by_cases e : n = mo bits
      · have ht : 0 ≤ wrap64 (Int.tmod bits 7 - 1) := by rcases hb with rfl | rfl <;> decide +kernel
        have hsh : shr .i64 (byt s a (n - 1)) (wrap64 (Int.tmod bits 7 - 1)) = byt s a (n - 1) / hs bits := by
          have : wrap64 (Int.tmod bits 7 - 1) = (if bits = 32 then 3 else 0) := by rcases hb with rfl | rfl <;> decide +kernel
          rw [this]; rcases hb with rfl | rfl <;> rfl
        have hsh2 : shr .i64 127 (wrap64 (Int.tmod bits 7 - 1)) = hm bits := by rcases hb with rfl | rfl <;> decide +kernel
        rw [if_pos (by omega), if_pos ht, hsh, hsh2]
        by_cases c : byt s a (n - 1) / hs bits = 0
        · rw [if_pos c, if_neg (fun h => h.2.1 c)]
          exact hj (fun h => h.2.1 c)
        · rw [if_neg c]
          by_cases c2 : byt s a (n - 1) / hs bits = hm bits
          · rw [if_pos c2, if_neg (fun h => h.2.2 c2)]
            exact hj (fun h => h.2.2 c2)
          · rw [if_neg c2, if_pos ⟨e, c, c2⟩]
      · rw [if_neg (by omega), if_neg (fun h => e h.1)]
        exact hj (fun h => e h.1)
    · rw [GS_err hf h]
      refine ⟨0, fun k _ => ?_⟩
      simp [h, sc]
  · rw [GS_not hf]
    refine Ev.bind (rparts_not s a bits hz hf) ⟨0, fun k _ => rfl⟩
end Go.Proofs.Ytflejniglhjbfaa.LebGetS
