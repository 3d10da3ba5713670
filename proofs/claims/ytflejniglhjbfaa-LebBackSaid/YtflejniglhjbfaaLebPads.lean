/-
  Longer forms of numbers: parts behind the last that add nothing. No program in sight.
-/
import Derived.Test.YtflejniglhjbfaaPureLebRow
namespace Go.Proofs.Ytflejniglhjbfaa.LebPads
open Go Go.RowKit Go.Proofs.YtflejniglhjbfaaW.PrintWords Go.Proofs.YtflejniglhjbfaaW.PrintMore Go.Proofs.Ytflejniglhjbfaa.LebMath Go.Proofs.Ytflejniglhjbfaa.LebFns Go.Proofs.Ytflejniglhjbfaa.LebGets Go.Proofs.Ytflejniglhjbfaa.LebGetS Go.Proofs.Ytflejniglhjbfaa.LebBacks Go.Proofs.Ytflejniglhjbfaa.F
set_option linter.unusedVariables false
/-- Parts that say u, the last one below L. -/
structure Pd (L : Int) (ds : List Int) (u : Int) : Prop where
  pos : 1 ≤ ds.length
  more : ∀ i, i < ds.length - 1 → 128 ≤ nth ds i
  last : nth ds (ds.length - 1) < L
  range : ∀ i, 0 ≤ nth ds i ∧ nth ds i < 256
  val : T (nth ds) 0 ds.length = u
theorem Pd.of_u {ds : List Int} {u : Int} (h : USpec ds u) : Pd 128 ds u := ⟨h.pos, h.more, h.last, h.range, h.val⟩
theorem Pd.of_s {ds : List Int} {u : Int} (h : SSpec ds u) (h0 : 0 ≤ u) : Pd 64 ds u := by
  have hr := h.range (ds.length - 1)
  have hl := h.last
  have hv := h.val
  by_cases hs : nth ds (ds.length - 1) / 64 % 2 = 1
  · rw [if_pos hs] at hv
    have := T_lt (nth ds) ds.length 0
    omega
  · rw [if_neg hs] at hv
    exact ⟨h.pos, h.more, by omega, h.range, by omega⟩
def pad (ds : List Int) : List Int := ds.set (ds.length - 1) (nth ds (ds.length - 1) + 128) ++ [0]
theorem pad_len (ds : List Int) : (pad ds).length = ds.length + 1 := by simp [pad]
theorem nth_pad_lt {ds : List Int} {i : Nat} (h : i < ds.length - 1) : nth (pad ds) i = nth ds i := by
  simp only [nth, pad, List.getD_eq_getElem?_getD]
  rw [List.getElem?_append_left (by simp; omega), List.getElem?_set_ne (by omega)]
theorem nth_pad_at {ds : List Int} (hp : 1 ≤ ds.length) : nth (pad ds) (ds.length - 1) = nth ds (ds.length - 1) + 128 := by
  simp only [nth, pad, List.getD_eq_getElem?_getD]
  rw [List.getElem?_append_left (by simp; omega), List.getElem?_set_self (by omega)]
  rfl
theorem nth_pad_end (ds : List Int) : nth (pad ds) ds.length = 0 := by
  simp only [nth, pad, List.getD_eq_getElem?_getD]
  rw [List.getElem?_append_right (by simp)]
  simp
theorem T_mod (f g : Nat → Int) : ∀ m j, (∀ i, j ≤ i → i < j + m → f i % 128 = g i % 128) → T f j m = T g j m
  | 0, _, _ => rfl
  | m + 1, j, h => by
    rw [T, T, h j (by omega) (by omega), T_mod f g m (j + 1) (fun i h1 h2 => h i (by omega) (by omega))]
theorem Pd.pad {L : Int} {ds : List Int} {u : Int} (h : Pd L ds u) (hL : 0 < L) (hL2 : L ≤ 128) : Pd L (pad ds) u := by
  have hp := h.pos
  have hlen := pad_len ds
  have hl := h.last
  refine ⟨by omega, fun i hi => ?_, ?_, fun i => ?_, ?_⟩
  · rw [hlen, Nat.add_sub_cancel] at hi
    rcases Nat.lt_or_ge i (ds.length - 1) with h1 | h1
    · rw [nth_pad_lt h1]; exact h.more i h1
    · obtain rfl : i = ds.length - 1 := by omega
      rw [nth_pad_at hp]
      have := (h.range (ds.length - 1)).1
      omega
  · rw [hlen, Nat.add_sub_cancel, nth_pad_end]; exact hL
  · rcases Nat.lt_or_ge i (ds.length - 1) with h1 | h1
    · rw [nth_pad_lt h1]; exact h.range i
    · rcases Nat.lt_or_ge i ds.length with h2 | h2
      · obtain rfl : i = ds.length - 1 := by omega
        rw [nth_pad_at hp]
        have := h.range (ds.length - 1)
        omega
      · rcases Nat.lt_or_ge i (ds.length + 1) with h3 | h3
        · obtain rfl : i = ds.length := by omega
          rw [nth_pad_end]; omega
        · rw [nth_out _ _ (by omega)]; omega
  · rw [hlen, T_last, Nat.zero_add, nth_pad_end, show (0 : Int) % 128 = 0 from rfl, Int.zero_mul, Int.add_zero, ← h.val]
    refine T_mod _ _ _ _ (fun i _ hi => ?_)
    rcases Nat.lt_or_ge i (ds.length - 1) with h1 | h1
    · rw [nth_pad_lt h1]
    · obtain rfl : i = ds.length - 1 := by omega
      rw [nth_pad_at hp]
      omega
theorem Pd.last_eq {L : Int} {ds : List Int} {u : Int} (h : Pd L ds u) (hL : L ≤ 128) : nth ds (ds.length - 1) = u / 128 ^ (ds.length - 1) := by
  have hv := h.val
  have hp := h.pos
  obtain ⟨m, hm⟩ : ∃ m, ds.length = m + 1 := ⟨ds.length - 1, by omega⟩
  have hl := h.last
  have hr := h.range (ds.length - 1)
  rw [hm, Nat.add_sub_cancel] at hl hr ⊢
  rw [hm, T_last, Nat.zero_add] at hv
  have h0 := T_nonneg (nth ds) m 0
  have h1 := T_lt (nth ds) m 0
  have hp0 := pow_pos128 m
  rw [← hv, show nth ds m % 128 = nth ds m from by omega, Int.add_mul_ediv_right _ _ (by omega), Int.ediv_eq_zero_of_lt h0 h1]
  omega
theorem get_pd {s : ByteArray} {a u : Int} {ds : List Int} (h : At s a ds) (hu : Pd 128 ds u) (hb : u < 4294967296) (hlen : ds.length ≤ 5) : G s a 32 = (u, a + ds.length, 0) := by
  have hf : Fit s a 32 := ⟨.inl rfl, h.1, by have := h.2.1; omega, h.2.2.1⟩
  have hp := hu.pos
  have hm5 : mo 32 = 5 := rfl
  rw [G_ok hf (scan_at h hp hu.more hu.last (by omega))]
  unfold gres
  have hu0 : 0 ≤ u := by rw [← hu.val]; exact T_nonneg _ _ _
  have hlast : byt s a (ds.length - 1) = u / 128 ^ (ds.length - 1) := by rw [h.2.2.2 _ (by omega)]; exact hu.last_eq (by omega)
  rw [if_neg, T_at h, hu.val, wrap64_eq (by omega) (by omega)]
  rintro ⟨e, hne⟩
  apply hne
  rw [hlast]
  have e5 : ds.length = 5 := e
  rw [e5]
  have p4 : (128 : Int) ^ (5 - 1) = 268435456 := by decide
  have hh : hw 32 = 16 := rfl
  rw [p4, hh]; omega
theorem gets_pd {s : ByteArray} {a x : Int} {ds : List Int} (h : At s a ds) (hu : Pd 64 ds x) (hb : x < 2147483648) (hlen : ds.length ≤ 5) : GS s a 32 = (x, a + ds.length, 0) := by
  have hf : Fit s a 32 := ⟨.inl rfl, h.1, by have := h.2.1; omega, h.2.2.1⟩
  have hp := hu.pos
  have hm5 : mo 32 = 5 := rfl
  have hu0 : 0 ≤ x := by rw [← hu.val]; exact T_nonneg _ _ _
  have hl := hu.last
  have hr := hu.range (ds.length - 1)
  rw [GS_ok hf (scan_at h hp hu.more (by omega) (by omega))]
  have hat : byt s a (ds.length - 1) = nth ds (ds.length - 1) := h.2.2.2 _ (by omega)
  have hlast := hu.last_eq (by omega)
  unfold sres
  have hsg : T (byt s a) 0 ds.length - sg s a ds.length = x := by
    unfold sg; rw [T_at h, hat, hu.val, if_neg (by omega)]; omega
  rw [if_neg, hsg, wrap64_eq (by omega) (by omega)]
  rintro ⟨e, hne, hne2⟩
  rw [hat, hlast] at hne hne2
  have e5 : ds.length = 5 := e
  have p4 : (128 : Int) ^ (5 - 1) = 268435456 := by decide
  have hh : hs 32 = 8 ∧ hm 32 = 15 := ⟨rfl, rfl⟩
  rw [e5, p4, hh.1] at hne hne2
  rw [hh.2] at hne2
  omega
/-- Parts that all say that more follow: cut. -/
theorem get_cut {s : ByteArray} {ds : List Int} (h : At s 0 ds) (hs : s.size = ds.length) (hm : ∀ i, i < ds.length → 128 ≤ nth ds i) (hlen : ds.length < 5) : G s 0 32 = (0, 0, 1201) := by
  have hf : Fit s 0 32 := ⟨.inl rfl, h.1, by have := h.2.1; omega, h.2.2.1⟩
  have hm5 : mo 32 = 5 := rfl
  have hlim : ((s.size : Int) - 0).toNat = ds.length := by omega
  have hsc : scan (byt s 0) ((s.size : Int) - 0).toNat (mo 32) 0 = (0, 1201) := by
    rw [hlim, hm5]
    exact scan_cut _ _ 5 0 (by omega) (by omega) (fun j _ hj => by rw [h.2.2.2 j hj]; exact hm j hj)
  rw [G_err hf (by rw [hsc]; decide), hsc]
theorem at_str (ds : List Int) (hr : ∀ i, 0 ≤ nth ds i ∧ nth ds i < 256) (hz : ds.length ≤ 140737488355328) : At (strOfNums ds) 0 ds :=
  ⟨Int.le_refl _, by rw [size_str]; omega, by rw [size_str]; exact hz, fun i hi => by
    unfold byt
    rw [Int.zero_add]
    exact bt_str ds i (hr i)⟩
theorem mem_range {ds : List Int} (hr : ∀ i, 0 ≤ nth ds i ∧ nth ds i < 256) : ∀ d ∈ ds, 0 ≤ d ∧ d < 256 := by
  intro d hd
  obtain ⟨i, hi⟩ := List.mem_iff_getElem?.1 hd
  have := hr i
  simp only [nth, List.getD_eq_getElem?_getD, hi, Option.getD_some] at this
  exact this
end Go.Proofs.Ytflejniglhjbfaa.LebPads
