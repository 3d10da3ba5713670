/-
  Names, plain: what a rune's bytes are, what Get answers behind Put.
-/
import Derived.Test.YtflejniglhjbfaaDoorENames
import Derived.Laws.Cover4
namespace Go.Proofs.YtflejniglhjbfaaDoor.ENames
open Go Go.RowKit Go.Lib Go.Proofs.YtflejniglhjbfaaDoor.F Go.Proofs.YtflejniglhjbfaaDoorW.PrintWords Go.Proofs.YtflejniglhjbfaaDoor.LebMath Go.Proofs.YtflejniglhjbfaaDoor.LebFns Go.Proofs.YtflejniglhjbfaaDoor.LebGets Go.Proofs.YtflejniglhjbfaaDoor.Pure13
set_option linter.unusedVariables false
set_option linter.unusedSimpArgs false
theorem lead_true {l : List UInt8} {b0 b1 b2 b3 sz lo hi : Nat} (h0 : (l.getD 0 0).toNat = b0) (h1 : (l.getD 1 0).toNat = b1) (h2 : (l.getD 2 0).toNat = b2) (h3 : (l.getD 3 0).toNat = b3) (hl : l.length = sz) (h128 : 128 ≤ b0)
    (hs : firstT b0 % 8 = sz) (hlo : accLo (firstT b0 / 16) = lo) (hhi : accHi (firstT b0 / 16) = hi) (hsz : sz = 2 ∨ sz = 3 ∨ sz = 4) (c1 : lo ≤ b1 ∧ b1 ≤ hi) (c2 : sz = 2 ∨ (128 ≤ b2 ∧ b2 ≤ 191)) (c3 : sz ≤ 3 ∨ (128 ≤ b3 ∧ b3 ≤ 191)) : validD l = true := by
  have hne : l ≠ [] := fun e => by subst e; simp at hl; omega
  rw [validD_lead l hne (by omega), h0, h1, h2, h3, hs, hlo, hhi, hl]
  have hd : l.drop sz = [] := List.drop_eq_nil_of_le (by omega)
  unfold checkN
  rcases hsz with rfl | rfl | rfl
  · rw [if_pos rfl, if_neg (by omega)]; simp only [hd, validD_nil]
  · rw [if_neg (by omega), if_pos rfl, if_neg (by omega)]; simp only [hd, validD_nil]
  · rw [if_neg (by omega), if_neg (by omega), if_pos rfl, if_neg (by omega)]; simp only [hd, validD_nil]
theorem of_nat {a : Nat} (h : a < 256) : (UInt8.ofNat a).toNat = a := by simp [Nat.mod_eq_of_lt h]
/-- A rune's bytes. -/
def runeB (x : Nat) : List Nat :=
  if x < 128 then [x] else if x < 2048 then [192 + x / 64, 128 + x % 64] else if 55296 ≤ x ∧ x < 57344 then [239, 191, 189] else if x < 65536 then [224 + x / 4096, 128 + x / 64 % 64, 128 + x % 64]
  else [240 + x / 262144, 128 + x / 4096 % 64, 128 + x / 64 % 64, 128 + x % 64]
theorem encode_runeB (x : Nat) (h : x < 1114112) : (Utf8.encode (x : Int)).data.toList = (runeB x).map UInt8.ofNat := by
  unfold Utf8.encode runeB
  by_cases hs : 55296 ≤ x ∧ x < 57344
  · have hv : Utf8.valid (x : Int) = false := by simp [Utf8.valid]; omega
    rw [if_neg (show ¬ x < 128 by omega), if_neg (show ¬ x < 2048 by omega), if_pos hs]
    simp [hv, Utf8.runeError]
  · have hv : Utf8.valid (x : Int) = true := by simp [Utf8.valid]; omega
    rw [if_neg hs]
    simp only [hv, if_true, Int.toNat_natCast]
    by_cases c1 : x < 128
    · rw [if_pos c1, if_pos c1]; rfl
    · rw [if_neg c1, if_neg c1]
      by_cases c2 : x < 2048
      · rw [if_pos c2, if_pos c2]; rfl
      · rw [if_neg c2, if_neg c2]
        by_cases c3 : x < 65536
        · rw [if_pos c3, if_pos c3]; rfl
        · rw [if_neg c3, if_neg c3]; rfl
theorem valid_runeB (x : Nat) (h : x < 1114112) : validD ((runeB x).map UInt8.ofNat) = true := by
  unfold runeB
  by_cases c1 : x < 128
  · rw [if_pos c1]
    simp only [List.map_cons, List.map_nil]
    rw [validD_cons _ _ (by rw [of_nat (by omega)]; exact c1), validD_nil]
  rw [if_neg c1]
  by_cases c2 : x < 2048
  · rw [if_pos c2]
    have n1 : ¬ 192 + x / 64 < 128 := by omega
    have n2 : ¬ 192 + x / 64 < 194 := by omega
    have n3 : 192 + x / 64 < 224 := by omega
    exact lead_true (b0 := 192 + x / 64) (b1 := 128 + x % 64) (sz := 2) (lo := 128) (hi := 191) (by simp; omega) (by simp; omega) rfl rfl rfl (by omega) (by simp [firstT, n1, n2, n3]) (by simp [firstT, accLo, n1, n2, n3]) (by simp [firstT, accHi, n1, n2, n3]) (by omega) (by omega) (by omega) (by omega)
  rw [if_neg c2]
  by_cases hs : 55296 ≤ x ∧ x < 57344
  · rw [if_pos hs]; decide
  rw [if_neg hs]
  by_cases c3 : x < 65536
  · rw [if_pos c3]
    obtain ⟨b, hb⟩ : ∃ b, 224 + x / 4096 = b := ⟨_, rfl⟩
    have e0 : ((List.map UInt8.ofNat [224 + x / 4096, 128 + x / 64 % 64, 128 + x % 64]).getD 0 0).toNat = b := by simp; omega
    have e1 : ((List.map UInt8.ofNat [224 + x / 4096, 128 + x / 64 % 64, 128 + x % 64]).getD 1 0).toNat = 128 + x / 64 % 64 := by simp; omega
    have e2 : ((List.map UInt8.ofNat [224 + x / 4096, 128 + x / 64 % 64, 128 + x % 64]).getD 2 0).toNat = 128 + x % 64 := by simp; omega
    by_cases d1 : b = 224
    · subst d1
      exact lead_true (sz := 3) (lo := 160) (hi := 191) e0 e1 e2 rfl rfl (by omega) (by decide) (by decide) (by decide) (by omega) (by omega) (by omega) (by omega)
    by_cases d2 : b = 237
    · subst d2
      exact lead_true (sz := 3) (lo := 128) (hi := 159) e0 e1 e2 rfl rfl (by omega) (by decide) (by decide) (by decide) (by omega) (by omega) (by omega) (by omega)
    have n1 : ¬ b < 128 := by omega
    have n2 : ¬ b < 194 := by omega
    have n3 : ¬ b < 224 := by omega
    have n4 : b < 240 := by omega
    refine lead_true (sz := 3) (lo := 128) (hi := 191) e0 e1 e2 rfl rfl (by omega) ?_ ?_ ?_ (by omega) (by omega) (by omega) (by omega)
    all_goals
      by_cases d3 : b < 237
      · simp [firstT, accLo, accHi, n1, n2, n3, d1, d3]
      · simp [firstT, accLo, accHi, n1, n2, n3, d1, d2, d3, n4]
  rw [if_neg c3]
  obtain ⟨b, hb⟩ : ∃ b, 240 + x / 262144 = b := ⟨_, rfl⟩
  have e0 : ((List.map UInt8.ofNat [240 + x / 262144, 128 + x / 4096 % 64, 128 + x / 64 % 64, 128 + x % 64]).getD 0 0).toNat = b := by simp; omega
  have e1 : ((List.map UInt8.ofNat [240 + x / 262144, 128 + x / 4096 % 64, 128 + x / 64 % 64, 128 + x % 64]).getD 1 0).toNat = 128 + x / 4096 % 64 := by simp; omega
  have e2 : ((List.map UInt8.ofNat [240 + x / 262144, 128 + x / 4096 % 64, 128 + x / 64 % 64, 128 + x % 64]).getD 2 0).toNat = 128 + x / 64 % 64 := by simp; omega
  have e3 : ((List.map UInt8.ofNat [240 + x / 262144, 128 + x / 4096 % 64, 128 + x / 64 % 64, 128 + x % 64]).getD 3 0).toNat = 128 + x % 64 := by simp; omega
  by_cases d1 : b = 240
  · subst d1
    exact lead_true (sz := 4) (lo := 144) (hi := 191) e0 e1 e2 e3 rfl (by omega) (by decide) (by decide) (by decide) (by omega) (by omega) (by omega) (by omega)
  by_cases d2 : b = 244
  · subst d2
    exact lead_true (sz := 4) (lo := 128) (hi := 143) e0 e1 e2 e3 rfl (by omega) (by decide) (by decide) (by decide) (by omega) (by omega) (by omega) (by omega)
  have n1 : ¬ b < 128 := by omega
  have n2 : ¬ b < 194 := by omega
  have n3 : ¬ b < 224 := by omega
  have n4 : ¬ b = 224 := by omega
  have n5 : ¬ b < 237 := by omega
  have n6 : ¬ b = 237 := by omega
  have n7 : ¬ b < 240 := by omega
  have n8 : b < 244 := by omega
  exact lead_true (sz := 4) (lo := 128) (hi := 191) e0 e1 e2 e3 rfl (by omega) (by simp [firstT, n1, n2, n3, n4, n5, n6, n7, d1, n8]) (by simp [firstT, accLo, n1, n2, n3, n4, n5, n6, n7, d1, n8]) (by simp [firstT, accHi, n1, n2, n3, n4, n5, n6, n7, d1, n8]) (by omega) (by omega) (by omega) (by omega)
theorem may_rune (x : Nat) (h : x < 1114112) : nmay (Utf8.encode (x : Int)) = true := by
  have h1 := encode_size_le (x : Int)
  have h2 : validD (Utf8.encode (x : Int)).data.toList = true := by rw [encode_runeB x h]; exact valid_runeB x h
  unfold nmay
  rw [h2, Bool.and_true]
  exact decide_eq_true (Nat.le_trans h1 (by decide))
theorem rune_surrogate (x : Nat) (h1 : 55296 ≤ x) (h2 : x < 57344) : Utf8.encode (x : Int) = ⟨#[239, 191, 189]⟩ := by
  have := encode_runeB x (by omega)
  unfold runeB at this
  rw [if_neg (by omega), if_neg (by omega), if_pos ⟨h1, h2⟩] at this
  apply ByteArray.ext
  apply Array.ext'
  rw [this]
  rfl
theorem rune_other (x : Nat) (h : x < 1114112) (hs : x < 55296 ∨ 57344 ≤ x) (h3 : x ≠ 65533) : Utf8.encode (x : Int) ≠ ⟨#[239, 191, 189]⟩ := by
  intro e
  have h2 := encode_runeB x h
  rw [e] at h2
  unfold runeB at h2
  by_cases c1 : x < 128
  · rw [if_pos c1] at h2
    simp at h2
  rw [if_neg c1] at h2
  by_cases c2 : x < 2048
  · rw [if_pos c2] at h2
    simp at h2
  rw [if_neg c2, if_neg (by omega)] at h2
  by_cases c3 : x < 65536
  · rw [if_pos c3] at h2
    simp only [List.map_cons, List.map_nil, List.cons.injEq, and_true] at h2
    obtain ⟨a1, a2, a3⟩ := h2
    have b1 := congrArg UInt8.toNat a1
    have b2 := congrArg UInt8.toNat a2
    have b3 := congrArg UInt8.toNat a3
    rw [of_nat (by omega)] at b1 b2 b3
    have g1 : (239 : UInt8).toNat = 239 := rfl
    have g2 : (191 : UInt8).toNat = 191 := rfl
    have g3 : (189 : UInt8).toNat = 189 := rfl
    omega
  · rw [if_neg c3] at h2
    simp at h2
theorem rune_fffd : Utf8.encode (65533 : Int) = ⟨#[239, 191, 189]⟩ := by decide +kernel
set_option maxRecDepth 100000 in
theorem raw_not : ∀ b : Fin 64, nmay (strOfNums [237, 160 + (128 + (b.val : Int)) % 32, 128 + (b.val : Int)]) = false := by decide +kernel
set_option maxRecDepth 100000 in
theorem over_not : ∀ b : Fin 64, nmay (strOfNums [192 + (128 + (b.val : Int)) % 2, 128 + (b.val : Int)]) = false := by decide +kernel
set_option maxRecDepth 100000 in
theorem lone_not : ∀ b : Fin 64, nmay (strOfNums [128 + (b.val : Int)]) = false := by decide +kernel
set_option maxRecDepth 100000 in
theorem big_not : ∀ b : Fin 64, nmay (strOfNums [244, 144, 128 + (b.val : Int), 128 + (b.val : Int)]) = false := by decide +kernel
/-! ### what comes back -/
theorem G_one (x : ByteArray) (p : Nat) (hp : p < x.size) (hz : x.size ≤ 140737488355328) (hb : bt x (p : Int) < 128) : G x (p : Int) 32 = (bt x (p : Int), ((p + 1 : Nat) : Int), 0) := by
  have hf : Fit x (p : Int) 32 := ⟨.inl rfl, by omega, by omega, hz⟩
  have h0 : byt x (p : Int) 0 = bt x (p : Int) := by unfold byt; simp
  have hr := bt_range x (p : Int)
  have hsc := scan_ok (byt x (p : Int)) ((x.size : Int) - p).toNat (mo 32) 0 0 (Nat.le_refl _) (by decide) (by omega) (by omega) (fun j _ hj => by omega)
  rw [G_ok hf (n := 1) (by simpa using hsc)]
  unfold gres
  rw [if_neg (by intro h; exact absurd h.1 (by decide))]
  have hT : T (byt x (p : Int)) 0 1 = bt x (p : Int) := by simp [T, h0]; omega
  rw [hT, wrap64_eq (by omega) (by omega)]
  congr 1
theorem lebOf_small (n : Nat) (h : n < 128) : lebOf (n : Int) = ⟨#[UInt8.ofNat n]⟩ := by
  unfold lebOf
  have e : (n : Int) % 18446744073709551616 = n := by omega
  rw [e]
  have : U 9 (n : Int) = [(n : Int) % 256] := by rw [U, if_neg (by omega)]
  rw [this]
  have e2 : (n : Int) % 256 = n := by omega
  rw [e2]
  simp [strOfNums, Nat.toUInt8]
theorem put_ok {s t : ByteArray} (h : nput s = (t, 0)) : s.size ≤ 64 ∧ validD s.data.toList = true ∧ t = ⟨#[UInt8.ofNat s.size]⟩ ++ s := by
  unfold nput at h
  split at h
  · cases h
  · split at h
    · rename_i h1 h2
      injection h with h3 _
      refine ⟨by omega, h2, ?_⟩
      rw [← h3, lebOf_small _ (by omega)]
    · cases h
theorem bt_app (p q : ByteArray) (i : Nat) (hi : i < q.size) : bt (p ++ q) ((p.size + i : Nat) : Int) = bt q (i : Int) := by
  unfold bt
  have h1 : ((p.size + i : Nat) : Int).toNat < (p ++ q).size := by rw [ByteArray.size_append]; omega
  have h2 : ((i : Nat) : Int).toNat < q.size := by omega
  rw [dif_pos h1, dif_pos h2]
  simp only [Int.toNat_natCast]
  rw [ByteArray.getElem_append_right (by omega)]
  simp
theorem back_get {s t pre : ByteArray} (h : nput s = (t, 0)) (hz : pre.size ≤ 140737488351232) : nget (pre ++ t ++ ⟨#[122]⟩) (pre.size : Int) = (s, (pre.size : Int) + (t.size : Int), 0) := by
  obtain ⟨h64, hv, rfl⟩ := put_ok h
  have e : pre ++ ((⟨#[UInt8.ofNat s.size]⟩ : ByteArray) ++ s) ++ ⟨#[122]⟩ = pre ++ (⟨#[UInt8.ofNat s.size]⟩ ++ (s ++ ⟨#[122]⟩)) := by simp [ByteArray.append_assoc]
  rw [e]
  have s1 : (⟨#[UInt8.ofNat s.size]⟩ : ByteArray).size = 1 := rfl
  have s2 : (⟨#[122]⟩ : ByteArray).size = 1 := rfl
  have hsz : (pre ++ ((⟨#[UInt8.ofNat s.size]⟩ : ByteArray) ++ (s ++ ⟨#[122]⟩))).size = pre.size + s.size + 2 := by simp [ByteArray.size_append, s1, s2]; omega
  have hb0 : bt (⟨#[UInt8.ofNat s.size]⟩ ++ (s ++ ⟨#[122]⟩)) ((0 : Nat) : Int) = s.size := by
    unfold bt
    have : ((0 : Nat) : Int).toNat < ((⟨#[UInt8.ofNat s.size]⟩ : ByteArray) ++ (s ++ ⟨#[122]⟩)).size := by rw [ByteArray.size_append, s1]; simp only [Int.toNat_natCast]; omega
    rw [dif_pos this]
    simp only [Int.toNat_natCast]
    rw [ByteArray.getElem_append_left (by rw [s1]; omega)]
    show (((UInt8.ofNat s.size).toNat : Nat) : Int) = _
    rw [of_nat (by omega)]
  have hb := bt_app pre (⟨#[UInt8.ofNat s.size]⟩ ++ (s ++ ⟨#[122]⟩)) 0 (by rw [ByteArray.size_append, s1]; omega)
  rw [hb0, Nat.add_zero] at hb
  have hG := G_one (pre ++ (⟨#[UInt8.ofNat s.size]⟩ ++ (s ++ ⟨#[122]⟩))) pre.size (by omega) (by omega) (by omega)
  rw [hb] at hG
  unfold nget
  rw [hG]
  have hex : (pre ++ ((⟨#[UInt8.ofNat s.size]⟩ : ByteArray) ++ (s ++ ⟨#[122]⟩))).extract (pre.size + 1) (pre.size + 1 + s.size) = s := by
    apply ByteArray.ext
    apply Array.ext'
    simp only [ByteArray.data_extract, ByteArray.data_append, Array.toList_extract, Array.toList_append]
    have h1 : pre.data.toList.length = pre.size := by simp
    have h2 : s.data.toList.length = s.size := by simp
    rw [List.extract_eq_take_drop]
    simp only [Array.toList_append]
    rw [List.drop_append, h1, List.drop_eq_nil_of_le (by omega), show pre.size + 1 - pre.size = 1 by omega, List.nil_append]
    show List.take _ (List.drop 1 (UInt8.ofNat s.size :: _)) = _
    rw [List.drop_succ_cons, List.drop_zero, show pre.size + 1 + s.size - (pre.size + 1) = s.size by omega]
    show List.take s.size (s.data.toList ++ [122]) = _
    rw [List.take_append, h2, Nat.sub_self, List.take_zero, List.append_nil, List.take_of_length_le (by omega)]
  simp only [Int.toNat_natCast, hex, hv, if_true, hsz]
  rw [if_neg (by omega), if_neg (by omega)]
  simp only [ByteArray.size_append, s1]
  congr 2
  omega
theorem back_cut {s t : ByteArray} (h : nput s = (t, 0)) (c : Nat) (hc : c < t.size) : nget (t.extract 0 c) 0 = (⟨#[]⟩, 0, 1300) := by
  obtain ⟨h64, hv, rfl⟩ := put_ok h
  have s1 : (⟨#[UInt8.ofNat s.size]⟩ : ByteArray).size = 1 := rfl
  rw [ByteArray.size_append, s1] at hc
  unfold nget
  by_cases h0 : c = 0
  · subst h0
    have : (((⟨#[UInt8.ofNat s.size]⟩ : ByteArray) ++ s).extract 0 0) = ⟨#[]⟩ := by
      apply ByteArray.ext; simp
    rw [this]
    rw [if_pos (by left; decide)]
  · have hsz : (((⟨#[UInt8.ofNat s.size]⟩ : ByteArray) ++ s).extract 0 c).size = c := by rw [ByteArray.size_extract, ByteArray.size_append, s1]; omega
    have hb0 : bt (((⟨#[UInt8.ofNat s.size]⟩ : ByteArray) ++ s).extract 0 c) ((0 : Nat) : Int) = s.size := by
      unfold bt
      rw [dif_pos (by rw [hsz]; simp; omega)]
      simp only [Int.toNat_natCast, ByteArray.getElem_extract]
      have : ((⟨#[UInt8.ofNat s.size]⟩ : ByteArray) ++ s)[0 + 0]'(by rw [ByteArray.size_append, s1]; omega) = UInt8.ofNat s.size := by
        simp only [Nat.add_zero]
        rw [ByteArray.getElem_append_left (by rw [s1]; omega)]
        rfl
      rw [this, of_nat (by omega)]
    have hG := G_one (((⟨#[UInt8.ofNat s.size]⟩ : ByteArray) ++ s).extract 0 c) 0 (by omega) (by omega) (by omega)
    rw [hb0] at hG
    have hG2 : G (((⟨#[UInt8.ofNat s.size]⟩ : ByteArray) ++ s).extract 0 c) 0 32 = ((s.size : Int), ((0 + 1 : Nat) : Int), 0) := hG
    rw [hG2, hsz]
    rw [if_pos (by right; show (s.size : Int) > (c : Int) - ((0 + 1 : Nat) : Int); omega)]
theorem put_bad {s t : ByteArray} {e : Int} (h : nput s = (t, e)) (he : e ≠ 0) : t = ⟨#[]⟩ ∧ nmay s = false := by
  unfold nput at h
  unfold nmay
  split at h
  · cases h; exact ⟨rfl, by simp; omega⟩
  · split at h
    · cases h; exact absurd rfl he
    · rename_i h2; cases h; exact ⟨rfl, by simp [h2]⟩
theorem put_may {s t : ByteArray} (h : nput s = (t, 0)) : nmay s = true := by
  obtain ⟨h1, h2, _⟩ := put_ok h
  simp [nmay, h1, h2]
end Go.Proofs.YtflejniglhjbfaaDoor.ENames
