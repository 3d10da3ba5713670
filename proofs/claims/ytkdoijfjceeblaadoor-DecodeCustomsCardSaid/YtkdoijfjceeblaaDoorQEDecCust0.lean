/-
  What the claim leans on, cut to what is used (wip/tools/prune15.py): words, printed functions, walks.
-/
import Derived.Test.YtkdoijfjceeblaaDoorQEDecCut0
namespace Go.Proofs.YtkdoijfjceeblaaDoor.EDec
open Go Go.RowKit Go.Proofs.YtkdoijfjceeblaaDoor.F Go.Proofs.YtkdoijfjceeblaaDoorW.Hand Go.Proofs.YtkdoijfjceeblaaDoorW.PrintWords Go.Proofs.YtkdoijfjceeblaaDoorW.PrintLast Go.Proofs.YtkdoijfjceeblaaDoorW.PrintMore
open Go.Proofs.YtkdoijfjceeblaaDoor.LebGets (G)
open Go.Proofs.YtkdoijfjceeblaaDoor.ENames (Tabs tabs_below nget nmay)
open Go.Proofs.YtkdoijfjceeblaaDoor.EInstr (GRes pGet get_b ret_int wrap_bt)
set_option linter.unusedVariables false
set_option linter.unusedSimpArgs false
open Go.Proofs.YtkdoijfjceeblaaDoor.LebBacks (bt_append bt_str)
def H (u : ByteArray) (last : Int) : List Sec × Option Int := dHeads u.size u last
theorem heads_fuel : ∀ (n n2 : Nat) (u : ByteArray) (last : Int), u.size ≤ n → u.size ≤ n2 → dHeads n u last = dHeads n2 u last := by
 intro n
 induction n with
 | zero => intro n2 u last h _; rw [dH_0 (by omega), dH_0 (by omega)]
 | succ n ih =>
  intro n2 u last h h2
  by_cases hz : u.size = 0
  ·rw [dH_0 hz, dH_0 hz]
  ·obtain ⟨k, rfl⟩ : ∃ k, n2 = k + 1 := ⟨n2 - 1, by omega⟩
   by_cases h1 : bt u 0 ≤ 11
   ·by_cases h3 : OkQ (bt u 0) last
    ·by_cases h4 : (G u 1 32).2.2 = 0 ∧ (G u 1 32).1 ≤ (u.size : Int) - (G u 1 32).2.1
     ·have hG : G u 1 32 = ((G u 1 32).1, (G u 1 32).2.1, 0) := by rw [← h4.1]
      obtain ⟨_, g1, g2, g3, _⟩ := G_in hG
      rw [dH_step hz h1 h3 hG h4.2, dH_step hz h1 h3 hG h4.2]
      have hs := ext_sz u ((G u 1 32).2.1 + (G u 1 32).1).toNat u.size (Nat.le_refl _)
      rw [ih k (u.extract ((G u 1 32).2.1 + (G u 1 32).1).toNat u.size) _ (by omega) (by omega)]
     ·rw [dH_1501 hz h1 h3 h4, dH_1501 hz h1 h3 h4]
    ·rw [dH_1503 hz h1 h3, dH_1503 hz h1 h3]
   ·rw [dH_1502 hz h1, dH_1502 hz h1]
theorem H_nil (last : Int) : H ⟨#[]⟩ last = ([], none) := dH_0 rfl
theorem H_step {u : ByteArray} {last x y : Int} (hz : ¬ u.size = 0) (h1 : bt u 0 ≤ 11) (h2 : OkQ (bt u 0) last) (hG : G u 1 32 = (x, y, 0)) (h3 : x ≤ (u.size : Int) - y) :
  H u last = ((bt u 0, u.extract y.toNat (y + x).toNat) :: (H (u.extract (y + x).toNat u.size) (max last (bt u 0))).1, (H (u.extract (y + x).toNat u.size) (max last (bt u 0))).2) := by
 obtain ⟨n, hn⟩ : ∃ n, u.size = n + 1 := ⟨u.size - 1, by omega⟩
 obtain ⟨_, g1, g2, g3, _⟩ := G_in hG
 have hs := ext_sz u (y + x).toNat u.size (Nat.le_refl _)
 unfold H
 rw [show dHeads u.size u last = dHeads (n + 1) u last by rw [hn], dH_step hz h1 h2 hG h3, heads_fuel n (u.extract (y + x).toNat u.size).size _ _ (by omega) (Nat.le_refl _)]
theorem bt_left {a b : ByteArray} {i : Int} (h0 : 0 ≤ i) (h : i < a.size) : bt (a ++ b) i = bt a i := by
 have := bt_append a b i.toNat
 rw [if_pos (by omega), show ((i.toNat : Nat) : Int) = i by omega] at this
 exact this
theorem ext_left (a b : ByteArray) (i j : Nat) (h : j ≤ a.size) : (a ++ b).extract i j = a.extract i j := by
 rw [ByteArray.extract_append]
 have : b.extract (i - a.size) (j - a.size) = ⟨#[]⟩ := by
  apply ByteArray.ext
  rw [ByteArray.data_extract, show j - a.size = 0 by omega]
  simp
 rw [this, app_nil]
theorem H_raw {raw rest : ByteArray} {last x y : Int} (h1 : bt raw 0 ≤ 11) (h2 : OkQ (bt raw 0) last) (hG : G raw 1 32 = (x, y, 0)) (h3 : y + x = raw.size) (hz : (raw ++ rest).size ≤ 140737488355328) :
  H (raw ++ rest) last = ((bt raw 0, raw.extract y.toNat raw.size) :: (H rest (max last (bt raw 0))).1, (H rest (max last (bt raw 0))).2) := by
 obtain ⟨_, g1, g2, g3, _⟩ := G_in hG
 have zz : (raw ++ rest).size = raw.size + rest.size := ByteArray.size_append
 have e0 : bt (raw ++ rest) 0 = bt raw 0 := bt_left (by omega) (by omega)
 have hG2 := G_move (t := raw ++ rest) (b := 1) hG (by omega) (by omega) hz (fun k k0 k1 => bt_left (by omega) (by omega))
 rw [show (1 : Int) + (y - 1) = y by omega] at hG2
 have := H_step (u := raw ++ rest) (last := last) (by omega) (by rw [e0]; exact h1) (by rw [e0]; exact h2) hG2 (by omega)
 rw [this, e0, show (y + x).toNat = raw.size by omega, ext_left raw rest _ _ (Nat.le_refl _), ext_end]
theorem ext_sub {s : ByteArray} {i j a b : Nat} (hj : j ≤ s.size) (hb : i + b ≤ j) : (s.extract i j).extract a b = s.extract (i + a) (i + b) := by
 apply ByteArray.ext
 simp only [ByteArray.data_extract, Array.extract_extract]
 congr 1; omega
theorem bt_sub {s : ByteArray} {i j : Nat} {k : Int} (hj : j ≤ s.size) (h0 : 0 ≤ k) (hk : i + k < j) : bt (s.extract i j) k = bt s (i + k) := by
 have e : s.extract i j = (s.extract i s.size).extract 0 (j - i) := by
  rw [ext_sub (Nat.le_refl _) (by omega)]; congr 1; omega
 rw [e, bt_pre (by rw [ext_sz s i s.size (Nat.le_refl _)]; omega) h0 (by omega), bt_suf (by omega) h0]
structure CI (s : ByteArray) (m : Mod) (i : Nat) (tp : ByteArray) : Prop where
 lo : 8 ≤ i
 hi : i ≤ s.size
 ex : ∃ (ys xs : List Sec) (m1 : Mod) (L : Int), 0 ≤ L ∧ (∀ rest : ByteArray, (tp ++ rest).size ≤ 140737488355328 → H (tp ++ rest) 0 = (ys ++ (H rest L).1, (H rest L).2)) ∧ foldSec m0 ys = .ok m1 ∧ H (s.extract i s.size) L = (xs, none) ∧ foldSec m1 xs = .ok m
theorem ci_start {s : ByteArray} {m : Mod} (h : dMod s = .ok m) : CI s m 8 ⟨#[]⟩ := by
 obtain ⟨hz, hh, xs, hx, hf, _⟩ := mod_parts h
 exact ⟨by omega, head_size hh, [], xs, m0, 0, by omega, fun rest _ => by rw [nil_app]; rfl, rfl, hx, hf⟩
theorem ci_custom {s : ByteArray} {m : Mod} {i : Nat} {tp b : ByteArray} (h : CI s m i tp) (hb : ∀ m, dSec b 0 m = .ok m) (hz : (tp ++ secS 0 b).size ≤ 1000000) : CI s m i (tp ++ secS 0 b) := by
 obtain ⟨lo, hi, ys, xs, m1, L, hL, h1, h2, h3, h4⟩ := h
 have zs : b.size ≤ (secS 0 b).size := by rw [secS, ByteArray.size_append]; omega
 have zt : (tp ++ secS 0 b).size = tp.size + (secS 0 b).size := ByteArray.size_append
 refine ⟨lo, hi, ys ++ [(0, b)], xs, m1, L, hL, fun rest hr => ?_, foldSec_step h2 (hb m1), h3, h4⟩
 have zr : (tp ++ secS 0 b ++ rest).size = tp.size + (secS 0 b).size + rest.size := by simp only [ByteArray.size_append]
 rw [ByteArray.append_assoc, h1 _ (by rw [← ByteArray.append_assoc]; exact hr)]
 have zz : (secS 0 b ++ rest).size = (secS 0 b).size + rest.size := ByteArray.size_append
 have hp := secS_pos 0 b
 obtain ⟨n, hn⟩ : ∃ n, (secS 0 b ++ rest).size = n + 1 := ⟨(secS 0 b ++ rest).size - 1, by omega⟩
 have hc := heads_cons (k := 0) (last := L) (b := b) (rest := rest) (by omega) (.inl rfl) (by omega) (by omega) n
 have : H (secS 0 b ++ rest) L = ((0, b) :: (H rest L).1, (H rest L).2) := by
  unfold H
  rw [hn, hc, show max L 0 = L by omega, heads_fuel n rest.size _ _ (by omega) (Nat.le_refl _)]
 rw [this, List.append_assoc]
 rfl
theorem ci_section {s : ByteArray} {m : Mod} {i : Nat} {tp : ByteArray} (h : CI s m i tp) (hlt : i < s.size) (hz : s.size ≤ 65536) : ∃ x y : Int, G s ((i : Int) + 1) 32 = (x, y, 0) ∧ (i : Int) + 1 < y ∧ 0 ≤ x ∧ y + x ≤ s.size ∧ CI s m (y + x).toNat (tp ++ s.extract i (y + x).toNat) := by
 obtain ⟨lo, hi, ys, xs, m1, L, hL, h1, h2, h3, h4⟩ := h
 have zu : (s.extract i s.size).size = s.size - i := ext_sz s i s.size (Nat.le_refl _)
 obtain ⟨n, hn⟩ : ∃ n, (s.extract i s.size).size = n + 1 := ⟨s.size - i - 1, by omega⟩
 have h3' := h3
 unfold H at h3'
 rw [hn] at h3'
 obtain ⟨b1, b2, x, y, hG, hle⟩ := heads_first (by omega) h3'
 obtain ⟨_, g1, g2, g3, _⟩ := G_in hG
 have hGs := G_move (t := s) (b := (i : Int) + 1) hG (by omega) (by omega) (by omega) (fun k k0 k1 => by
  rw [bt_suf (by omega) (by omega)]; congr 1; omega)
 have hraw : (s.extract i ((i : Int) + y + x).toNat).size = (y + x).toNat := by
  rw [ext_sz s i _ (by omega)]; omega
 refine ⟨x, (i : Int) + 1 + (y - 1), hGs, by omega, g3, by omega, ?_⟩
 rw [show ((i : Int) + 1 + (y - 1) + x).toNat = ((i : Int) + y + x).toNat by omega]
 have hst := H_step (by omega) b1 b2 hG hle
 rw [h3] at hst
 have q1 : xs = (bt (s.extract i s.size) 0, (s.extract i s.size).extract y.toNat (y + x).toNat) :: (H ((s.extract i s.size).extract (y + x).toNat (s.extract i s.size).size) (max L (bt (s.extract i s.size) 0))).1 := by
  injection hst
 have q2 : none = (H ((s.extract i s.size).extract (y + x).toNat (s.extract i s.size).size) (max L (bt (s.extract i s.size) 0))).2 := by
  injection hst
 have er : (s.extract i s.size).extract (y + x).toNat (s.extract i s.size).size = s.extract ((i : Int) + y + x).toNat s.size := by
  rw [zu, ext_sub (Nat.le_refl _) (by omega)]; congr 1 <;> omega
 rw [er] at q1 q2
 have eb : (s.extract i ((i : Int) + y + x).toNat).extract y.toNat (s.extract i ((i : Int) + y + x).toNat).size = (s.extract i s.size).extract y.toNat (y + x).toNat := by
  rw [hraw, ext_sub (by omega) (by omega), ext_sub (Nat.le_refl _) (by omega)]
 have e0 : bt (s.extract i ((i : Int) + y + x).toNat) 0 = bt (s.extract i s.size) 0 := by
  rw [bt_sub (by omega) (by omega) (by omega), bt_suf (by omega) (by omega)]
 have hGr := G_move (t := s.extract i ((i : Int) + y + x).toNat) (b := 1) hG (by omega) (by omega) (by omega) (fun k k0 k1 => by
  rw [bt_sub (by omega) (by omega) (by omega), bt_suf (by omega) (by omega)])
 rw [show (1 : Int) + (y - 1) = y by omega] at hGr
 rw [q1] at h4
 obtain ⟨m2, hm2, hf2⟩ : ∃ m2, dSec ((s.extract i s.size).extract y.toNat (y + x).toNat) (bt (s.extract i s.size) 0) m1 = .ok m2 ∧ foldSec m2 (H (s.extract ((i : Int) + y + x).toNat s.size) (max L (bt (s.extract i s.size) 0))).1 = .ok m := by
  unfold foldSec at h4
  cases hd : dSec ((s.extract i s.size).extract y.toNat (y + x).toNat) (bt (s.extract i s.size) 0) m1 with
  | error c => simp only [hd] at h4; cases h4
  | ok m2 => simp only [hd] at h4; exact ⟨m2, rfl, h4⟩
 refine ⟨by omega, by omega, ys ++ [(bt (s.extract i s.size) 0, (s.extract i s.size).extract y.toNat (y + x).toNat)], (H (s.extract ((i : Int) + y + x).toNat s.size) (max L (bt (s.extract i s.size) 0))).1, m2, max L (bt (s.extract i s.size) 0), by omega, fun rest hr => ?_, foldSec_step h2 hm2, by rw [q2], hf2⟩
 have zr : (tp ++ s.extract i ((i : Int) + y + x).toNat ++ rest).size = tp.size + (s.extract i ((i : Int) + y + x).toNat).size + rest.size := by simp only [ByteArray.size_append]
 have zz : (s.extract i ((i : Int) + y + x).toNat ++ rest).size = (s.extract i ((i : Int) + y + x).toNat).size + rest.size := ByteArray.size_append
 rw [ByteArray.append_assoc, h1 _ (by rw [← ByteArray.append_assoc]; exact hr), H_raw (by rw [e0]; exact b1) (by rw [e0]; exact b2) hGr (by rw [hraw]; omega) (by omega), eb, e0, List.append_assoc]
 rfl
theorem ci_end {s : ByteArray} {m : Mod} {tp b : ByteArray} (h : CI s m s.size tp) (hb : ∀ m, dSec b 0 m = .ok m) (hz : 8 + (tp ++ secS 0 b).size ≤ 65536) (hc : m.funcs.length = m.codes.length) : dMod (({ data := #[0, 97, 115, 109, 1, 0, 0, 0] } : ByteArray) ++ (tp ++ secS 0 b)) = .ok m := by
 obtain ⟨_, _, ys, xs, m1, L, hL, h1, h2, h3, h4⟩ := ci_custom h hb (by omega)
 have e : s.extract s.size s.size = ⟨#[]⟩ := ext_out s _ _ (Nat.le_refl _)
 rw [e, H_nil] at h3
 injection h3 with h3 _
 subst h3
 have hm : m1 = m := by
  unfold foldSec at h4
  injection h4
 subst hm
 have := h1 ⟨#[]⟩ (by rw [app_nil]; omega)
 rw [app_nil, H_nil] at this
 unfold H at this
 rw [mod_heads, if_neg (by omega), this, List.append_nil, h2]
 simp only []
 rw [if_pos hc]
theorem toList_loop (u : ByteArray) : ∀ (n i : Nat) (r : List UInt8), u.size - i = n → ByteArray.toList.loop u i r = r.reverse ++ u.data.toList.drop i := by
 intro n
 have e : u.data.toList.length = u.size := Array.length_toList
 induction n with
 | zero =>
  intro i r h
  rw [ByteArray.toList.loop, if_neg (by omega), List.drop_of_length_le (by omega), List.append_nil]
 | succ n ih =>
  intro i r h
  rw [ByteArray.toList.loop, if_pos (by omega), ih (i + 1) _ (by omega), List.reverse_cons, List.append_assoc, List.drop_eq_getElem_cons (i := i) (by omega)]
  congr 1
  have : u.get! i = u.data.toList[i]'(by omega) := by
   have hi : i < u.data.size := by have : u.data.size = u.size := rfl; omega
   have : u.get! i = u.data[i]! := rfl
   rw [this, Array.getElem_toList, getElem!_pos u.data i hi]
  rw [this]; rfl
theorem toList_eq (u : ByteArray) : u.toList = u.data.toList := by
 rw [ByteArray.toList, toList_loop u u.size 0 [] (by omega)]; rfl
theorem head_eq {s : ByteArray} (h : hasHead s = true) : s.extract 0 8 = ({ data := #[0, 97, 115, 109, 1, 0, 0, 0] } : ByteArray) := by
 unfold hasHead at h
 rw [Bool.and_eq_true] at h
 have h2 := eq_of_beq h.2
 have l : ∀ u : ByteArray, u.toList = u.data.toList := toList_eq
 apply ByteArray.ext
 apply Array.toList_inj.1
 rw [← l, h2]
def custB (nm ex : ByteArray) : ByteArray := lebS nm.size ++ nm ++ ex
theorem cust_sec {nm ex : ByteArray} (h : nmay nm = true) (hz : ex.size ≤ 100000) (m : Mod) : dSec (custB nm ex) 0 m = .ok m := by
 unfold nmay at h
 rw [Bool.and_eq_true] at h
 have h64 : nm.size ≤ 64 := of_decide_eq_true h.1
 have zl := lebS_size nm.size
 have zc : (custB nm ex).size = (lebS nm.size).size + nm.size + ex.size := by simp only [custB, ByteArray.size_append]
 have hg := lebS_get (p := ⟨#[]⟩) (q := nm ++ ex) (x := (nm.size : Int)) (by omega) (by omega) (by rw [nil_app]; simp only [ByteArray.size_append]; omega)
 rw [nil_app, show ((⟨#[]⟩ : ByteArray).size : Int) = 0 from rfl, Int.zero_add, ← ByteArray.append_assoc, ← custB] at hg
 have hx : (custB nm ex).extract (lebS nm.size).size ((lebS nm.size).size + nm.size) = nm := ext_mid _ _ _
 have hn : nget (custB nm ex) 0 = (nm, ((lebS nm.size).size : Int) + nm.size, 0) := by
  unfold nget
  simp only [hg, Int.toNat_natCast, hx]
  rw [if_neg (by omega), if_neg (by omega), if_pos h.2]
 have hd : dName (custB nm ex) 0 = .ok (nm, ((lebS nm.size).size : Int) + nm.size) := by
  unfold dName
  rw [hn, if_neg (by simp), if_pos rfl]
 unfold dSec
 rw [if_pos rfl, hd]
end Go.Proofs.YtkdoijfjceeblaaDoor.EDec
