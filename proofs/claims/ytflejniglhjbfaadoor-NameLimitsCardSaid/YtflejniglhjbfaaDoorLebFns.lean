/-
  What the printed functions of package leb, and of its reference, come to: digits, their value.
-/
import Derived.Test.YtflejniglhjbfaaDoorLebMath
import Derived.Test.YtflejniglhjbfaaDoorFx3
namespace Go.Proofs.YtflejniglhjbfaaDoor.LebFns
open Go Go.RowKit Go.Proofs.YtflejniglhjbfaaDoorW.PrintWords Go.Proofs.YtflejniglhjbfaaDoorW.PrintMore Go.Proofs.YtflejniglhjbfaaDoor.LebMath Go.Proofs.YtflejniglhjbfaaDoor.F

/-! ### Put -/
theorem put_l0 : ∀ (d : Nat) (u : Int) (acc : List Int) (k : Nat), 0 ≤ u → u < 128 ^ (d + 1) → acc.length + d + 1 ≤ 1000 → d < k → leb_Put.l0 k acc u = some (strOfNums (acc ++ U d u))
  | d, u, acc, 0, _, _, _, h => by omega
  | 0, u, acc, k + 1, h0, h1, h2, h3 => by
    rw [leb_Put.l0, if_neg (by simp at h1; omega), if_pos (by omega), U]
  | d + 1, u, acc, k + 1, h0, h1, h2, h3 => by
    rw [leb_Put.l0, U]
    by_cases h : u ≥ 128
    · rw [if_pos h, if_pos (by omega), if_pos h]
      rw [put_l0 d (u / 128) _ k (by omega) (by rw [Int.pow_succ] at h1; omega) (by simp; omega) (by omega)]
      rw [or_u8 _ (by omega) (by omega), List.append_assoc]
      rw [show u % 256 % 128 = u % 128 from by omega]
      rfl
    · rw [if_neg h, if_pos (by omega), if_neg h]
theorem leb_l0 : ∀ (d : Nat) (u : Int) (acc : List Int) (k : Nat), 0 ≤ u → u < 128 ^ (d + 1) → u < 18446744073709551616 → acc.length + d + 1 ≤ 1000 → d < k → pelorusref12_Leb.l0 k acc u = some (strOfNums (acc ++ U d u))
  | d, u, acc, 0, _, _, _, _, h => by omega
  | 0, u, acc, k + 1, h0, h1, _, h2, h3 => by
    rw [pelorusref12_Leb.l0, if_neg (by simp at h1; omega), if_pos (by omega), U]
  | d + 1, u, acc, k + 1, h0, h1, h4, h2, h3 => by
    rw [pelorusref12_Leb.l0, U]
    have e1 : Int.tmod u 128 = u % 128 := Int.tmod_eq_emod_of_nonneg h0
    have e2 : Int.tdiv u 128 = u / 128 := Int.tdiv_eq_ediv_of_nonneg h0
    by_cases h : u ≥ 128
    · rw [if_pos h, if_pos (by omega), if_pos h, e1, e2, u64_eq, u64_eq, show u / 128 % 18446744073709551616 = u / 128 from by omega]
      rw [leb_l0 d (u / 128) _ k (by omega) (by rw [Int.pow_succ] at h1; omega) (by omega) (by simp; omega) (by omega)]
      rw [show (u % 128 + 128) % 18446744073709551616 % 256 = u % 128 + 128 from by omega, List.append_assoc]
      rfl
    · rw [if_neg h, if_pos (by omega), if_neg h]
theorem pow10 : (18446744073709551616 : Int) < 128 ^ (9 + 1) := by decide
theorem put_ev (x : Int) : Ev (fun k => leb_Put.f k x) (strOfNums (U 9 (x % 18446744073709551616))) := by
  refine ⟨10, fun k hk => ?_⟩
  show leb_Put.l0 k [] (IntKind.u64.wrap x) = _
  rw [u64_eq, put_l0 9 _ [] k (by omega) (by have := pow10; omega) (by simp) (by omega)]
  rfl
theorem lebref_ev (x : Int) : Ev (fun k => pelorusref12_Leb.f k x) (strOfNums (U 9 (x % 18446744073709551616))) := by
  refine ⟨10, fun k hk => ?_⟩
  show pelorusref12_Leb.l0 k [] (IntKind.u64.wrap x) = _
  rw [u64_eq, leb_l0 9 _ [] k (by omega) (by have := pow10; omega) (by omega) (by simp) (by omega)]
  rfl
/-! ### parts -/
/-- How many parts a number of so many bits has at most. -/
def mo (bits : Int) : Nat := if bits = 32 then 5 else 10
/-- The bytes from 'at' on. -/
def byt (s : ByteArray) (at_ : Int) (i : Nat) : Int := bt s (at_ + i)
theorem byt_range (s : ByteArray) (a : Int) (i : Nat) : 0 ≤ byt s a i ∧ byt s a i < 256 := by have := bt_range s (a + i); unfold byt; omega
def Fit (s : ByteArray) (a bits : Int) : Prop := (bits = 32 ∨ bits = 64) ∧ 0 ≤ a ∧ a ≤ (s.size : Int) ∧ s.size ≤ 140737488355328
theorem most_eq {bits : Int} (h : bits = 32 ∨ bits = 64) : leb_most.f bits = some (mo bits : Int) := by
  rcases h with rfl | rfl <;> decide +kernel
theorem parts_l0 (s : ByteArray) (a bits : Int) (hf : Fit s a bits) : ∀ (d i k : Nat), i + d = mo bits → i ≤ ((s.size : Int) - a).toNat → d < k → leb_parts.l0 k s a bits (i : Int) = some (scan (byt s a) ((s.size : Int) - a).toNat d i)
  | d, i, 0, _, _, h => by omega
  | 0, i, k + 1, h1, h2, h3 => by
    rw [leb_parts.l0, most_eq hf.1, Option.bind_some, if_neg (by omega), scan]
  | d + 1, i, k + 1, h1, h2, h3 => by
    obtain ⟨hb, h0, hs, hz⟩ := hf
    have hm : mo bits ≤ 10 := by unfold mo; split <;> omega
    have hw : wrap64 (a + i) = a + i := wrap64_eq (by omega) (by omega)
    have hw1 : wrap64 ((i : Int) + 1) = ((i + 1 : Nat) : Int) := by rw [wrap64_eq (by omega) (by omega)]; omega
    rw [leb_parts.l0, most_eq hb, Option.bind_some, if_pos (by omega), hw, hw1, scan]
    by_cases e : i = ((s.size : Int) - a).toNat
    · rw [if_pos (by omega), if_pos e]
    · rw [if_neg (by omega), if_neg e, if_pos (by omega), if_pos (by omega)]
      show (if byt s a i < 128 then _ else _) = _
      by_cases c : byt s a i < 128
      · rw [if_pos c, if_pos c]; simp
      · rw [if_neg c, if_neg c]
        exact parts_l0 s a bits ⟨hb, h0, hs, hz⟩ d (i + 1) k (by omega) (by omega) (by omega)
theorem parts_fit (s : ByteArray) (a bits : Int) (hf : Fit s a bits) : Ev (fun k => leb_parts.f k s a bits) (scan (byt s a) ((s.size : Int) - a).toNat (mo bits) 0) := by
  refine ⟨13, fun k hk => ?_⟩
  obtain ⟨k, rfl⟩ : ∃ m, k = m + 2 := ⟨k - 2, by omega⟩
  have hm : mo bits ≤ 10 := by unfold mo; split <;> omega
  have hl := parts_l0 s a bits hf (mo bits) 0 (k + 1) (by omega) (by omega) (by omega)
  obtain ⟨hb, h0, hs, hz⟩ := hf
  have hj : leb_parts.j0 (k + 2) s a bits (decide (a > (s.size : Int))) = some (scan (byt s a) ((s.size : Int) - a).toNat (mo bits) 0) := by
    rw [leb_parts.j0, if_neg (by simp; omega)]; exact hl
  show leb_parts.f (k + 2) s a bits = _
  unfold leb_parts.f
  rcases hb with rfl | rfl
  · rw [if_pos rfl, if_neg (by omega), hj]
  · rw [if_neg (by omega), if_pos rfl, if_neg (by omega), hj]
theorem parts_not (s : ByteArray) (a bits : Int) (hz : s.size ≤ 140737488355328) (hf : ¬ Fit s a bits) : Ev (fun k => leb_parts.f k s a bits) (0, 1200) := by
  refine ⟨13, fun k hk => ?_⟩
  obtain ⟨k, rfl⟩ : ∃ m, k = m + 2 := ⟨k - 2, by omega⟩
  have hj : leb_parts.j0 (k + 2) s a bits true = some (0, 1200) := by rw [leb_parts.j0, if_pos rfl]
  have hj' : ¬ a < 0 → (bits = 32 ∨ bits = 64) → leb_parts.j0 (k + 2) s a bits (decide (a > (s.size : Int))) = some (0, 1200) := by
    intro h1 h2
    rw [show decide (a > (s.size : Int)) = true from decide_eq_true (by
      have : ¬ (0 ≤ a ∧ a ≤ (s.size : Int)) := fun h => hf ⟨h2, h.1, h.2, hz⟩
      omega)]
    exact hj
  show leb_parts.f (k + 2) s a bits = _
  unfold leb_parts.f
  by_cases h1 : bits = 32
  · rw [if_pos h1]; by_cases h : a < 0
    · rw [if_pos h, hj]
    · rw [if_neg h, hj' h (.inl h1)]
  · rw [if_neg h1]
    by_cases h2 : bits = 64
    · rw [if_pos h2]; by_cases h : a < 0
      · rw [if_pos h, hj]
      · rw [if_neg h, hj' h (.inr h2)]
    · rw [if_neg h2, hj]
/-- The reference tells the last part's place. -/
def sc (a : Int) (p : Int × Int) : Int × Int := if p.2 = 0 then (a + p.1 - 1, 0) else p
theorem rparts_l0 (s : ByteArray) (a bits : Int) (hf : Fit s a bits) : ∀ (d i k : Nat), i + d = mo bits → i ≤ ((s.size : Int) - a).toNat → d < k → pelorusref12_parts.l0 k s a (mo bits) (i : Int) = some (sc a (scan (byt s a) ((s.size : Int) - a).toNat d i))
  | d, i, 0, _, _, h => by omega
  | 0, i, k + 1, h1, h2, h3 => by
    rw [pelorusref12_parts.l0, if_neg (by omega), scan]; rfl
  | d + 1, i, k + 1, h1, h2, h3 => by
    obtain ⟨hb, h0, hs, hz⟩ := hf
    have hm : mo bits ≤ 10 := by unfold mo; split <;> omega
    have hw : wrap64 (a + i) = a + i := wrap64_eq (by omega) (by omega)
    have hw1 : wrap64 ((i : Int) + 1) = ((i + 1 : Nat) : Int) := by rw [wrap64_eq (by omega) (by omega)]; omega
    rw [pelorusref12_parts.l0, if_pos (by omega), hw, hw1, scan]
    by_cases e : i = ((s.size : Int) - a).toNat
    · rw [if_pos (by omega), if_pos e]; rfl
    · rw [if_neg (by omega), if_neg e, if_pos (by omega), if_pos (by omega)]
      show (if byt s a i < 128 then _ else _) = _
      by_cases c : byt s a i < 128
      · rw [if_pos c, if_pos c]; simp [sc]; omega
      · rw [if_neg c, if_neg c]
        exact rparts_l0 s a bits ⟨hb, h0, hs, hz⟩ d (i + 1) k (by omega) (by omega) (by omega)
theorem rparts_fit (s : ByteArray) (a bits : Int) (hf : Fit s a bits) : Ev (fun k => pelorusref12_parts.f k s a bits) (sc a (scan (byt s a) ((s.size : Int) - a).toNat (mo bits) 0)) := by
  refine ⟨13, fun k hk => ?_⟩
  obtain ⟨k, rfl⟩ : ∃ m, k = m + 2 := ⟨k - 2, by omega⟩
  have hm : mo bits ≤ 10 := by unfold mo; split <;> omega
  have hl := rparts_l0 s a bits hf (mo bits) 0 (k + 1) (by omega) (by omega) (by omega)
  obtain ⟨hb, h0, hs, hz⟩ := hf
  have hmo : wrap64 (Int.tdiv (wrap64 (bits + 6)) 7) = (mo bits : Int) := by rcases hb with rfl | rfl <;> decide +kernel
  have hj : pelorusref12_parts.j0 (k + 2) s a bits (decide (a > (s.size : Int))) = some (sc a (scan (byt s a) ((s.size : Int) - a).toNat (mo bits) 0)) := by
    rw [pelorusref12_parts.j0, if_neg (by simp; omega), hmo]; exact hl
  show pelorusref12_parts.f (k + 2) s a bits = _
  unfold pelorusref12_parts.f
  rcases hb with rfl | rfl
  · rw [if_pos rfl, if_neg (by omega), hj]
  · rw [if_neg (by omega), if_pos rfl, if_neg (by omega), hj]
theorem rparts_not (s : ByteArray) (a bits : Int) (hz : s.size ≤ 140737488355328) (hf : ¬ Fit s a bits) : Ev (fun k => pelorusref12_parts.f k s a bits) (0, 1200) := by
  refine ⟨13, fun k hk => ?_⟩
  obtain ⟨k, rfl⟩ : ∃ m, k = m + 2 := ⟨k - 2, by omega⟩
  have hj : pelorusref12_parts.j0 (k + 2) s a bits true = some (0, 1200) := by rw [pelorusref12_parts.j0, if_pos rfl]
  have hj' : ¬ a < 0 → (bits = 32 ∨ bits = 64) → pelorusref12_parts.j0 (k + 2) s a bits (decide (a > (s.size : Int))) = some (0, 1200) := by
    intro h1 h2
    rw [show decide (a > (s.size : Int)) = true from decide_eq_true (by
      have : ¬ (0 ≤ a ∧ a ≤ (s.size : Int)) := fun h => hf ⟨h2, h.1, h.2, hz⟩
      omega)]
    exact hj
  show pelorusref12_parts.f (k + 2) s a bits = _
  unfold pelorusref12_parts.f
  by_cases h1 : bits = 32
  · rw [if_pos h1]; by_cases h : a < 0
    · rw [if_pos h, hj]
    · rw [if_neg h, hj' h (.inl h1)]
  · rw [if_neg h1]
    by_cases h2 : bits = 64
    · rw [if_pos h2]; by_cases h : a < 0
      · rw [if_pos h, hj]
      · rw [if_neg h, hj' h (.inr h2)]
    · rw [if_neg h2, hj]
end Go.Proofs.YtflejniglhjbfaaDoor.LebFns
