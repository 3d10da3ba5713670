/-
  Numbers come back: digits as Put and PutSigned lay them, read by Get and GetSigned.
-/
import Derived.Test.YtflejniglhjbfaaLebGetS
namespace Go.Proofs.Ytflejniglhjbfaa.LebBacks
open Go Go.RowKit Go.Proofs.YtflejniglhjbfaaW.PrintWords Go.Proofs.YtflejniglhjbfaaW.PrintMore Go.Proofs.Ytflejniglhjbfaa.LebMath Go.Proofs.Ytflejniglhjbfaa.LebFns Go.Proofs.Ytflejniglhjbfaa.LebGets Go.Proofs.Ytflejniglhjbfaa.LebGetS Go.Proofs.Ytflejniglhjbfaa.F

def nth (ds : List Int) (i : Nat) : Int := ds.getD i 0
theorem nth_cons (c : Int) (ds : List Int) (i : Nat) : nth (c :: ds) (i + 1) = nth ds i := rfl
theorem nth_zero (c : Int) (ds : List Int) : nth (c :: ds) 0 = c := rfl
theorem T_shift (f : Nat → Int) : ∀ m j, T f (j + 1) m = T (fun i => f (i + 1)) j m
  | 0, _ => rfl
  | m + 1, j => by rw [T, T, T_shift f m (j + 1)]
theorem T_cons (c : Int) (ds : List Int) (n : Nat) : T (nth (c :: ds)) 0 (n + 1) = c % 128 + 128 * T (nth ds) 0 n := by
  rw [T, T_shift]; rfl

structure USpec (ds : List Int) (u : Int) : Prop where
  pos : 1 ≤ ds.length
  more : ∀ i, i < ds.length - 1 → 128 ≤ nth ds i
  last : nth ds (ds.length - 1) < 128
  range : ∀ i, 0 ≤ nth ds i ∧ nth ds i < 256
  val : T (nth ds) 0 ds.length = u
  lo : 1 < ds.length → 128 ^ (ds.length - 1) ≤ u
  hi : u < 128 ^ ds.length
theorem nth_out (ds : List Int) (i : Nat) (h : ds.length ≤ i) : nth ds i = 0 := by
  simp [nth, List.getD_eq_getElem?_getD, List.getElem?_eq_none h]
theorem uspec_one (u : Int) (h0 : 0 ≤ u) (h1 : u < 128) : USpec [u % 256] u := by
  have e : u % 256 = u := by omega
  rw [e]
  refine ⟨by simp, fun i hi => by simp at hi, by simpa [nth] using h1, fun i => ?_, by simp [T, nth]; omega, fun h => by simp at h, by simpa using h1⟩
  cases i with
  | zero => simp [nth]; omega
  | succ i => rw [nth_out _ _ (by simp)]; omega
theorem U_spec : ∀ (d : Nat) (u : Int), 0 ≤ u → u < 128 ^ (d + 1) → USpec (U d u) u ∧ (U d u).length ≤ d + 1
  | 0, u, h0, h1 => by rw [U]; exact ⟨uspec_one u h0 (by simpa using h1), by simp⟩
  | d + 1, u, h0, h1 => by
    rw [U]
    by_cases h : u ≥ 128
    · rw [if_pos h]
      obtain ⟨ih, il⟩ := U_spec d (u / 128) (by omega) (by rw [Int.pow_succ] at h1; omega)
      have hp := ih.pos
      refine ⟨⟨by simp, fun i hi => ?_, ?_, fun i => ?_, ?_, fun _ => ?_, ?_⟩, by simp; omega⟩
      · cases i with
        | zero => rw [nth_zero]; omega
        | succ i => rw [nth_cons]; exact ih.more i (by simp at hi; omega)
      · rw [List.length_cons, show (U d (u / 128)).length + 1 - 1 = ((U d (u / 128)).length - 1) + 1 from by omega, nth_cons]; exact ih.last
      · cases i with
        | zero => rw [nth_zero]; omega
        | succ i => rw [nth_cons]; exact ih.range i
      · rw [List.length_cons, T_cons, ih.val]; omega
      · rw [List.length_cons, Nat.add_sub_cancel]
        by_cases hl : 1 < (U d (u / 128)).length
        · have := ih.lo hl
          rw [show (U d (u / 128)).length = ((U d (u / 128)).length - 1) + 1 from by omega, Int.pow_succ]; omega
        · rw [show (U d (u / 128)).length = 1 from by omega]; omega
      · have := ih.hi
        rw [List.length_cons, Int.pow_succ]; omega
    · rw [if_neg h]; exact ⟨uspec_one u h0 (by omega), by simp⟩

structure SSpec (ds : List Int) (x : Int) : Prop where
  pos : 1 ≤ ds.length
  more : ∀ i, i < ds.length - 1 → 128 ≤ nth ds i
  last : nth ds (ds.length - 1) < 128
  range : ∀ i, 0 ≤ nth ds i ∧ nth ds i < 256
  val : T (nth ds) 0 ds.length - (if nth ds (ds.length - 1) / 64 % 2 = 1 then 128 ^ ds.length else 0) = x
  lo : 1 < ds.length → x < -(64 * 128 ^ (ds.length - 2)) ∨ 64 * 128 ^ (ds.length - 2) ≤ x
  hi : x < 64 * 128 ^ (ds.length - 1)
  hi' : -(64 * 128 ^ (ds.length - 1)) ≤ x
theorem sspec_one (x : Int) (h0 : -64 ≤ x) (h1 : x < 64) : SSpec [x % 128] x := by
  refine ⟨by simp, fun i hi => by simp at hi, by simp [nth]; omega, fun i => ?_, ?_, fun h => by simp at h, by simpa using h1, by simpa using h0⟩
  · cases i with
    | zero => simp [nth]; omega
    | succ i => rw [nth_out _ _ (by simp)]; omega
  · simp [T, nth]; split <;> omega
theorem S_spec : ∀ (d : Nat) (x : Int), -(64 * 128 ^ d) ≤ x → x < 64 * 128 ^ d → SSpec (S d x) x ∧ (S d x).length ≤ d + 1
  | 0, x, h0, h1 => by rw [S]; exact ⟨sspec_one x (by simpa using h0) (by simpa using h1), by simp⟩
  | d + 1, x, h0, h1 => by
    have step : (x < -64 ∨ 63 < x) → SSpec ((x % 128 + 128) :: S d (x / 128)) x ∧ ((x % 128 + 128) :: S d (x / 128)).length ≤ d + 1 + 1 := by
      intro hx
      obtain ⟨ih, il⟩ := S_spec d (x / 128) (by rw [Int.pow_succ] at h0; omega) (by rw [Int.pow_succ] at h1; omega)
      have hp := ih.pos
      have hlast : nth ((x % 128 + 128) :: S d (x / 128)) (((x % 128 + 128) :: S d (x / 128)).length - 1) = nth (S d (x / 128)) ((S d (x / 128)).length - 1) := by
        rw [List.length_cons, show (S d (x / 128)).length + 1 - 1 = ((S d (x / 128)).length - 1) + 1 from by omega, nth_cons]
      refine ⟨⟨by simp, fun i hi => ?_, ?_, fun i => ?_, ?_, fun _ => ?_, ?_, ?_⟩, by simp; omega⟩
      · cases i with
        | zero => rw [nth_zero]; omega
        | succ i => rw [nth_cons]; exact ih.more i (by simp at hi; omega)
      · rw [hlast]; exact ih.last
      · cases i with
        | zero => rw [nth_zero]; omega
        | succ i => rw [nth_cons]; exact ih.range i
      · have hv := ih.val
        rw [hlast, List.length_cons, T_cons, Int.pow_succ]
        split at hv <;> split <;> omega
      · rw [List.length_cons]
        by_cases hl : 1 < (S d (x / 128)).length
        · have := ih.lo hl
          rw [show (S d (x / 128)).length + 1 - 2 = ((S d (x / 128)).length - 2) + 1 from by omega, Int.pow_succ]; omega
        · rw [show (S d (x / 128)).length = 1 from by omega]; simp; omega
      · have := ih.hi
        rw [List.length_cons, show (S d (x / 128)).length + 1 - 1 = ((S d (x / 128)).length - 1) + 1 from by omega, Int.pow_succ]; omega
      · have := ih.hi'
        rw [List.length_cons, show (S d (x / 128)).length + 1 - 1 = ((S d (x / 128)).length - 1) + 1 from by omega, Int.pow_succ]; omega
    rw [S]
    by_cases ha : x < -64
    · rw [if_pos ha]; exact step (.inl ha)
    · rw [if_neg ha]
      by_cases hb : x > 63
      · rw [if_pos hb]; exact step (.inr hb)
      · rw [if_neg hb]; exact ⟨sspec_one x (by omega) (by omega), by simp⟩

/-! ### bytes -/
theorem bt_append (s t : ByteArray) (i : Nat) : bt (s ++ t) (i : Int) = if i < s.size then bt s (i : Int) else bt t ((i - s.size : Nat) : Int) := by
  unfold bt
  simp only [Int.toNat_natCast]
  by_cases h : i < s.size
  · rw [if_pos h, dif_pos h, dif_pos (by rw [ByteArray.size_append]; omega), ByteArray.getElem_append_left h]
  · rw [if_neg h]
    by_cases h2 : i < (s ++ t).size
    · rw [dif_pos h2, dif_pos (by rw [ByteArray.size_append] at h2; omega), ByteArray.getElem_append_right (by omega)]
    · rw [dif_neg h2, dif_neg (by rw [ByteArray.size_append] at h2; omega)]
theorem size_str (ds : List Int) : (strOfNums ds).size = ds.length := by
  simp [strOfNums, ByteArray.size]
theorem bt_str (ds : List Int) (i : Nat) (h : 0 ≤ nth ds i ∧ nth ds i < 256) : bt (strOfNums ds) (i : Int) = nth ds i := by
  unfold bt
  simp only [Int.toNat_natCast]
  by_cases hi : i < ds.length
  · rw [dif_pos (by rw [size_str]; exact hi)]
    have e : (strOfNums ds)[i]'(by rw [size_str]; exact hi) = UInt8.ofNat (ds[i].toNat) := by
      simp [strOfNums, ByteArray.getElem_eq_getElem_data]
    rw [e]
    have e2 : nth ds i = ds[i] := by unfold nth; rw [List.getD_eq_getElem?_getD, List.getElem?_eq_getElem hi]; rfl
    rw [e2] at h ⊢
    rw [UInt8.toNat_ofNat']
    omega
  · rw [dif_neg (by rw [size_str]; exact hi), nth_out _ _ (by omega)]
/-- The bytes ds stand in s from a on. -/
def At (s : ByteArray) (a : Int) (ds : List Int) : Prop := 0 ≤ a ∧ a + ds.length ≤ s.size ∧ s.size ≤ 140737488355328 ∧ ∀ i, i < ds.length → byt s a i = nth ds i
theorem at_mid (p q : ByteArray) (ds : List Int) (hr : ∀ i, 0 ≤ nth ds i ∧ nth ds i < 256) (hz : (p ++ strOfNums ds ++ q).size ≤ 140737488355328) : At (p ++ strOfNums ds ++ q) p.size ds := by
  refine ⟨by omega, by simp only [ByteArray.size_append, size_str]; omega, hz, fun i hi => ?_⟩
  unfold byt
  rw [show (p.size : Int) + (i : Int) = ((p.size + i : Nat) : Int) from by omega, bt_append, if_pos (by rw [ByteArray.size_append, size_str]; omega), bt_append, if_neg (by omega), show p.size + i - p.size = i from by omega]
  exact bt_str ds i (hr i)
theorem scan_at {s : ByteArray} {a : Int} {ds : List Int} (h : At s a ds) (hp : 1 ≤ ds.length) (hm : ∀ i, i < ds.length - 1 → 128 ≤ nth ds i) (hl : nth ds (ds.length - 1) < 128) {m : Nat} (hlen : ds.length ≤ m) :
    scan (byt s a) ((s.size : Int) - a).toNat m 0 = ((ds.length : Int), 0) := by
  obtain ⟨h0, h1, _, h2⟩ := h
  rw [scan_ok (byt s a) _ m 0 (ds.length - 1) (by omega) (by omega) (by omega) (by rw [h2 _ (by omega)]; exact hl) (fun j _ hj => by rw [h2 _ (by omega)]; exact hm j hj)]
  congr 1; omega
theorem T_at {s : ByteArray} {a : Int} {ds : List Int} (h : At s a ds) : T (byt s a) 0 ds.length = T (nth ds) 0 ds.length :=
  T_congr _ _ _ _ fun i _ hi => h.2.2.2 i (by omega)
theorem last_u {ds : List Int} {u : Int} (h : USpec ds u) : nth ds (ds.length - 1) = u / 128 ^ (ds.length - 1) := by
  have hv := h.val
  have hp := h.pos
  obtain ⟨m, hm⟩ : ∃ m, ds.length = m + 1 := ⟨ds.length - 1, by omega⟩
  have hl := h.last
  have hr := h.range (ds.length - 1)
  rw [hm, Nat.add_sub_cancel] at hl hr ⊢
  rw [hm, T_last, Nat.zero_add] at hv
  have h0 := T_nonneg (nth ds) m 0
  have h1 := T_lt (nth ds) m 0
  have hp0 := pow_pos128 m
  rw [← hv, show nth ds m % 128 = nth ds m from by omega, Int.add_mul_ediv_right _ _ (by omega), Int.ediv_eq_zero_of_lt h0 h1]
  omega
/-- Get reads what Put has laid. -/
theorem get_u {s : ByteArray} {a bits u : Int} {ds : List Int} (h : At s a ds) (hu : USpec ds u) (hb : bits = 32 ∧ u < 4294967296 ∨ bits = 64 ∧ u < 18446744073709551616) (hlen : ds.length ≤ mo bits) : G s a bits = (wrap64 u, a + ds.length, 0) := by
  have hf : Fit s a bits := ⟨by omega, h.1, by have := h.2.1; omega, h.2.2.1⟩
  have hp := hu.pos
  rw [G_ok hf (scan_at h hp hu.more hu.last hlen)]
  unfold gres
  have hlast : byt s a (ds.length - 1) = u / 128 ^ (ds.length - 1) := by rw [h.2.2.2 _ (by omega)]; exact last_u hu
  rw [if_neg, T_at h, hu.val]
  rintro ⟨e, hne⟩
  apply hne
  rw [hlast]
  have hu0 : 0 ≤ u := by rw [← hu.val]; exact T_nonneg _ _ _
  rcases hb with ⟨rfl, hb⟩ | ⟨rfl, hb⟩
  · have e5 : ds.length = 5 := e
    rw [e5]
    have p4 : (128 : Int) ^ (5 - 1) = 268435456 := by decide
    have hh : hw 32 = 16 := rfl
    rw [p4, hh]; omega
  · have e10 : ds.length = 10 := e
    rw [e10]
    have p9 : (128 : Int) ^ (10 - 1) = 9223372036854775808 := by decide
    have hh : hw 64 = 2 := rfl
    rw [p9, hh]; omega
theorem len_u32 {ds : List Int} {u : Int} (hu : USpec ds u) (h : u < 4294967296) : ds.length ≤ 5 := by
  by_cases c : 1 < ds.length
  · have := hu.lo c
    rcases Nat.lt_or_ge 5 ds.length with h6 | h6
    · have : (128 : Int) ^ 5 ≤ 128 ^ (ds.length - 1) := by
        have h7 : (128 : Nat) ^ 5 ≤ 128 ^ (ds.length - 1) := Nat.pow_le_pow_right (by omega) (by omega)
        exact_mod_cast h7
      have p5 : (128 : Int) ^ 5 = 34359738368 := by decide
      omega
    · exact h6
  · omega
theorem last_s {ds : List Int} {x : Int} (h : SSpec ds x) : nth ds (ds.length - 1) = (x / 128 ^ (ds.length - 1)) % 128 := by
  have hv := h.val
  have hp := h.pos
  obtain ⟨m, hm⟩ : ∃ m, ds.length = m + 1 := ⟨ds.length - 1, by omega⟩
  have hl := h.last
  have hr := h.range (ds.length - 1)
  rw [hm, Nat.add_sub_cancel] at hl hr ⊢
  rw [hm, T_last, Nat.zero_add, Nat.add_sub_cancel, Int.pow_succ] at hv
  have h0 := T_nonneg (nth ds) m 0
  have h1 := T_lt (nth ds) m 0
  have hp0 := pow_pos128 m
  have e : x = T (nth ds) 0 m + (nth ds m - (if nth ds m / 64 % 2 = 1 then 128 else 0)) * 128 ^ m := by
    rw [← hv, show nth ds m % 128 = nth ds m from by omega, Int.sub_mul]
    split
    · rw [Int.mul_comm 128]; omega
    · omega
  rw [e, Int.add_mul_ediv_right _ _ (by omega), Int.ediv_eq_zero_of_lt h0 h1]
  split <;> omega
theorem gets_s {s : ByteArray} {a bits x : Int} {ds : List Int} (h : At s a ds) (hu : SSpec ds x) (hb : bits = 32 ∧ -2147483648 ≤ x ∧ x < 2147483648 ∨ bits = 64 ∧ -9223372036854775808 ≤ x ∧ x < 9223372036854775808) (hlen : ds.length ≤ mo bits) : GS s a bits = (x, a + ds.length, 0) := by
  have hf : Fit s a bits := ⟨by omega, h.1, by have := h.2.1; omega, h.2.2.1⟩
  have hp := hu.pos
  rw [GS_ok hf (scan_at h hp hu.more hu.last hlen)]
  have hat : byt s a (ds.length - 1) = nth ds (ds.length - 1) := h.2.2.2 _ (by omega)
  have hlast := last_s hu
  unfold sres
  have hsg : T (byt s a) 0 ds.length - sg s a ds.length = x := by
    unfold sg; rw [T_at h, hat]; exact hu.val
  rw [if_neg, hsg, wrap64_eq (by omega) (by omega)]
  rintro ⟨e, hne, hne2⟩
  rw [hat, hlast] at hne hne2
  rcases hb with ⟨rfl, hb⟩ | ⟨rfl, hb⟩
  · have e5 : ds.length = 5 := e
    have p4 : (128 : Int) ^ (5 - 1) = 268435456 := by decide
    have hh : hs 32 = 8 ∧ hm 32 = 15 := ⟨rfl, rfl⟩
    rw [e5, p4, hh.1] at hne hne2
    rw [hh.2] at hne2
    omega
  · have e10 : ds.length = 10 := e
    have p9 : (128 : Int) ^ (10 - 1) = 9223372036854775808 := by decide
    have hh : hs 64 = 1 ∧ hm 64 = 127 := ⟨rfl, rfl⟩
    rw [e10, p9, hh.1] at hne hne2
    rw [hh.2] at hne2
    omega
theorem len_s32 {ds : List Int} {x : Int} (hu : SSpec ds x) (h : -2147483648 ≤ x ∧ x < 2147483648) : ds.length ≤ 5 := by
  by_cases c : 1 < ds.length
  · have := hu.lo c
    rcases Nat.lt_or_ge 5 ds.length with h6 | h6
    · have : (128 : Int) ^ 4 ≤ 128 ^ (ds.length - 2) := by
        have h7 : (128 : Nat) ^ 4 ≤ 128 ^ (ds.length - 2) := Nat.pow_le_pow_right (by omega) (by omega)
        exact_mod_cast h7
      have p4 : (128 : Int) ^ 4 = 268435456 := by decide
      omega
    · exact h6
  · omega
theorem U9 (u : Int) (h0 : 0 ≤ u) (h1 : u < 18446744073709551616) : USpec (U 9 u) u ∧ (U 9 u).length ≤ 10 := U_spec 9 u h0 (by have := pow10; omega)
theorem S9 (x : Int) (h0 : -9223372036854775808 ≤ x) (h1 : x < 9223372036854775808) : SSpec (S 9 x) x ∧ (S 9 x).length ≤ 10 := S_spec 9 x (by have := pow9; omega) (by have := pow9; omega)
end Go.Proofs.Ytflejniglhjbfaa.LebBacks
