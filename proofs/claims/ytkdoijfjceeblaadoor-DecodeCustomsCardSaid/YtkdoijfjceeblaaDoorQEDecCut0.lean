/-
  What the claim leans on, cut to what is used (wip/tools/prune15.py): words, printed functions, walks.
-/
import Derived.Test.YtkdoijfjceeblaaDoorQEDecP
namespace Go.Proofs.YtkdoijfjceeblaaDoor.EDec
open Go Go.RowKit Go.Proofs.YtkdoijfjceeblaaDoor.F Go.Proofs.YtkdoijfjceeblaaDoorW.Hand Go.Proofs.YtkdoijfjceeblaaDoorW.PrintWords Go.Proofs.YtkdoijfjceeblaaDoorW.PrintLast Go.Proofs.YtkdoijfjceeblaaDoorW.PrintMore
open Go.Proofs.YtkdoijfjceeblaaDoor.LebGets (G)
open Go.Proofs.YtkdoijfjceeblaaDoor.ENames (Tabs tabs_below nget nmay)
open Go.Proofs.YtkdoijfjceeblaaDoor.EInstr (GRes pGet get_b ret_int wrap_bt)
set_option linter.unusedVariables false
set_option linter.unusedSimpArgs false
open Go.Proofs.YtkdoijfjceeblaaDoor.LebBacks (bt_append bt_str)
open Go.Proofs.YtkdoijfjceeblaaDoor.LebFns (Fit byt mo)
open Go.Proofs.YtkdoijfjceeblaaDoor.LebMath (scan scan_ok T T_congr)
theorem G_move {s t : ByteArray} {a b x y : Int} (h : G s a 32 = (x, y, 0)) (hb : 0 ≤ b) (ht : b + (y - a) ≤ t.size) (hz : t.size ≤ 140737488355328) (hc : ∀ k : Int, 0 ≤ k → k < y - a → bt t (b + k) = bt s (a + k)) : G t b 32 = (x, b + (y - a), 0) := by
 by_cases hf : Fit s a 32
 ·rcases LebGets.scan_or (byt s a) ((s.size : Int) - a).toNat (mo 32) with ⟨n, h1, h2, h3, h4, h5, h6⟩ | ⟨h0, _⟩
  ·rw [LebGets.G_ok hf h4] at h
   have hg := h
   unfold LebGets.gres at hg
   split at hg
   ·cases hg
   next hcond =>
   have hy : y = a + n := by injection hg with _ hg; injection hg with hg _; omega
   have hx : wrap64 (T (byt s a) 0 n) = x := by injection hg
   have hbb : ∀ j : Nat, j < n → byt t b j = byt s a j := fun j hj => by
    unfold byt; exact hc j (by omega) (by omega)
   have hft : Fit t b 32 := ⟨.inl rfl, hb, by omega, hz⟩
   have hs := scan_ok (byt t b) ((t.size : Int) - b).toNat (mo 32) 0 (n - 1) (by omega) (by omega) (by omega) (by rw [hbb (n - 1) (by omega)]; exact h5) (fun j _ hj => by rw [hbb j (by omega)]; exact h6 j hj)
   rw [show (((n - 1 : Nat) : Int) + 1) = (n : Int) by omega] at hs
   rw [LebGets.G_ok hft hs]
   unfold LebGets.gres
   rw [hbb (n - 1) (by omega), if_neg hcond, T_congr (byt t b) (byt s a) n 0 (fun i _ hi => hbb i (by omega)), hx]
   congr 2
   omega
  ·rw [LebGets.G_err hf h0] at h
   injection h with _ h
   injection h with _ h
   exact absurd h h0
 ·rw [LebGets.G_not hf] at h
  injection h with _ h
  injection h with _ h
  cases h
theorem G_in {s : ByteArray} {a x y : Int} (h : G s a 32 = (x, y, 0)) : 0 ≤ a ∧ a < y ∧ y ≤ s.size ∧ 0 ≤ x ∧ x < 4294967296 := by
 by_cases hf : Fit s a 32
 ·rcases LebGets.scan_or (byt s a) ((s.size : Int) - a).toNat (mo 32) with ⟨n, h1, h2, h3, h4, h5, h6⟩ | ⟨h0, _⟩
  ·rw [LebGets.G_ok hf h4] at h
   have hb := LebFns.byt_range s a (n - 1)
   unfold LebGets.gres at h
   split at h
   ·cases h
   next hcond =>
   have hy : y = a + n := by injection h with _ hg; injection hg with hg _; omega
   have hx : wrap64 (T (byt s a) 0 n) = x := by injection h
   have h0 := LebMath.T_nonneg (byt s a) n 0
   have hm : mo 32 = 5 := rfl
   have hw : LebGets.hw 32 = 16 := rfl
   have hlt : T (byt s a) 0 n < 4294967296 := by
    by_cases h5n : n = 5
    ·have hq : byt s a (n - 1) < 16 := by
      rw [hm, hw] at hcond
      have : ¬ byt s a (n - 1) / 16 ≠ 0 := fun hh => hcond ⟨h5n, hh⟩
      omega
     subst h5n
     have hl := LebMath.T_last (byt s a) 4 0
     have ht := LebMath.T_lt (byt s a) 4 0
     simp only [Nat.zero_add] at hl
     have : (5 : Nat) - 1 = 4 := rfl
     rw [this] at hq hb
     have e : byt s a 4 % 128 = byt s a 4 := by omega
     rw [e] at hl
     have p4 : (128 : Int) ^ 4 = 268435456 := by decide
     rw [p4] at hl ht
     rw [hl]
     omega
    ·have ht := LebMath.T_lt (byt s a) n 0
     have : (128 : Int) ^ n ≤ 128 ^ 4 := by
      have : n = 1 ∨ n = 2 ∨ n = 3 ∨ n = 4 := by rw [hm] at h2; omega
      rcases this with rfl | rfl | rfl | rfl <;> decide
     have p4 : (128 : Int) ^ 4 = 268435456 := by decide
     omega
   have hw2 : wrap64 (T (byt s a) 0 n) = T (byt s a) 0 n := by unfold wrap64; omega
   rw [hw2] at hx
   refine ⟨hf.2.1, by omega, ?_, by omega, by omega⟩
   omega
  ·rw [LebGets.G_err hf h0] at h
   injection h with _ h
   injection h with _ h
   exact absurd h h0
 ·rw [LebGets.G_not hf] at h
  injection h with _ h
  injection h with _ h
  cases h
theorem ext_cat (s : ByteArray) (k : Nat) (h : k ≤ s.size) : s = s.extract 0 k ++ s.extract k s.size := by
 apply ByteArray.ext
 have e : s.data.size = s.size := rfl
 simp only [ByteArray.data_append, ByteArray.data_extract]
 rw [Array.extract_append_extract, Nat.min_eq_left (Nat.zero_le _), ← e]
 rw [Nat.max_eq_right (by omega)]
 exact (Array.extract_eq_self_of_le (by omega)).symm
theorem ext_sz (s : ByteArray) (i j : Nat) (h : j ≤ s.size) : (s.extract i j).size = j - i := by
 have e : s.data.size = s.size := rfl
 have : (s.extract i j).size = (s.extract i j).data.size := rfl
 rw [this, ByteArray.data_extract, Array.size_extract]; omega
theorem bt_pre {s : ByteArray} {k : Nat} (h : k ≤ s.size) {i : Int} (h0 : 0 ≤ i) (hi : i < k) : bt (s.extract 0 k) i = bt s i := by
 have hc := ext_cat s k h
 have hb := bt_append (s.extract 0 k) (s.extract k s.size) i.toNat
 rw [← hc, if_pos (by rw [ext_sz s 0 k h]; omega), show ((i.toNat : Nat) : Int) = i by omega] at hb
 exact hb.symm
theorem bt_suf {s : ByteArray} {k : Nat} (h : k ≤ s.size) {i : Int} (h0 : 0 ≤ i) : bt (s.extract k s.size) i = bt s (k + i) := by
 have hc := ext_cat s k h
 have hb := bt_append (s.extract 0 k) (s.extract k s.size) (k + i.toNat)
 rw [← hc, if_neg (by rw [ext_sz s 0 k h]; omega), ext_sz s 0 k h, show (k + i.toNat - (k - 0) : Nat) = i.toNat by omega, show ((i.toNat : Nat) : Int) = i by omega, show ((k + i.toNat : Nat) : Int) = k + i by omega] at hb
 exact hb.symm
theorem heads_first {k : Nat} {u : ByteArray} {last : Int} {xs : List Sec} (hz : ¬ u.size = 0) (h : dHeads (k + 1) u last = (xs, none)) : bt u 0 ≤ 11 ∧ OkQ (bt u 0) last ∧ ∃ x y, G u 1 32 = (x, y, 0) ∧ x ≤ (u.size : Int) - y := by
 by_cases h1 : bt u 0 ≤ 11
 ·by_cases h2 : OkQ (bt u 0) last
  ·by_cases h3 : (G u 1 32).2.2 = 0 ∧ (G u 1 32).1 ≤ (u.size : Int) - (G u 1 32).2.1
   ·refine ⟨h1, h2, (G u 1 32).1, (G u 1 32).2.1, ?_, h3.2⟩
    rw [← h3.1]
   ·rw [dH_1501 hz h1 h2 h3] at h; cases h
  ·rw [dH_1503 hz h1 h2] at h; cases h
 ·rw [dH_1502 hz h1] at h; cases h
theorem mod_parts {s : ByteArray} {m : Mod} (h : dMod s = .ok m) : s.size ≤ 65536 ∧ hasHead s = true ∧ ∃ xs, dHeads (s.extract 8 s.size).size (s.extract 8 s.size) 0 = (xs, none) ∧ foldSec m0 xs = .ok m ∧ m.funcs.length = m.codes.length := by
 by_cases h1 : s.size ≤ 65536
 ·cases h2 : hasHead s with
  | false => rw [dMod_head h1 h2] at h; cases h
  | true =>
   rw [dMod_rest h1 h2] at h
   refine ⟨h1, rfl, (dHeads (s.extract 8 s.size).size (s.extract 8 s.size) 0).1, ?_⟩
   cases h3 : foldSec m0 (dHeads (s.extract 8 s.size).size (s.extract 8 s.size) 0).1 with
   | error c => rw [h3] at h; cases h
   | ok m1 =>
    rw [h3] at h
    cases h4 : (dHeads (s.extract 8 s.size).size (s.extract 8 s.size) 0).2 with
    | some c => rw [h4] at h; cases h
    | none =>
     rw [h4] at h
     simp only [] at h
     by_cases h5 : m1.funcs.length = m1.codes.length
     ·rw [if_pos h5] at h
      cases h
      exact ⟨by rw [← h4], rfl, h5⟩
     ·rw [if_neg h5] at h; cases h
 ·rw [dMod_long h1] at h; cases h
theorem head_size {s : ByteArray} (h : hasHead s = true) : 8 ≤ s.size := by
 unfold hasHead at h
 rw [Bool.and_eq_true] at h
 exact of_decide_eq_true h.1
end Go.Proofs.YtkdoijfjceeblaaDoor.EDec
