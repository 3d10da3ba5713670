/-
  What the claim leans on, cut to what is used (wip/tools/prune15.py): words, printed functions, walks.
-/
import Derived.Test.YtkdoijfjceeblaaDoorQF
import Derived.Test.YtkdoijfjceeblaaDoorQF2
import Derived.Lib.ValidLaws
import Derived.Test.YtkdoijfjceeblaaDoorQShelf
import Derived.Test.YtkdoijfjceeblaaDoorQE15A
namespace Go.Proofs.YtkdoijfjceeblaaDoor.Pure13
open Go Go.RowKit Go.Lib Go.Proofs.YtkdoijfjceeblaaDoor.F Go.Proofs.YtkdoijfjceeblaaDoorW.PrintWords Go.Proofs.YtkdoijfjceeblaaDoor.LebMath
set_option linter.unusedVariables false
set_option linter.unusedSimpArgs false
theorem bt_drop (s : ByteArray) (i j : Nat) : bt s ((i + j : Nat) : Int) = (((s.data.toList.drop i).getD j 0).toNat : Int) := by
 unfold bt
 rw [List.getD_eq_getElem?_getD, List.getElem?_drop]
 by_cases h : i + j < s.size
 ·have h2 : i + j < s.data.toList.length := by simpa using h
  have h3 : ((i + j : Nat) : Int).toNat < s.size := by omega
  rw [dif_pos h3, List.getElem?_eq_getElem h2]
  simp only [Int.toNat_natCast, Option.getD_some]
  rfl
 ·have h2 : s.data.toList.length ≤ i + j := by simpa using h
  have h3 : ¬ ((i + j : Nat) : Int).toNat < s.size := by omega
  rw [dif_neg h3, List.getElem?_eq_none h2]
  rfl
theorem tail_eq (s : ByteArray) (a : Nat) (lo hi : Int) : pelorusref12_tail.f s a lo hi = some (if a < s.size ∧ lo ≤ bt s a ∧ bt s a ≤ hi then bt s a else -1) := by
 have hb := bt_range s a
 unfold pelorusref12_tail.f
 by_cases h : a < s.size
 ·rw [if_neg (by omega), if_pos (by omega), if_pos (by omega)]
  by_cases h1 : bt s a < lo
  ·rw [if_pos h1, if_neg (by omega)]
  ·rw [if_neg h1]
   by_cases h2 : bt s a > hi
   ·rw [if_pos h2, if_neg (by omega)]
   ·rw [if_neg h2, if_pos ⟨h, by omega, by omega⟩, wrap64_eq (by omega) (by omega)]
 ·rw [if_pos (by omega), if_neg (by omega)]
theorem l1_go {s : ByteArray} (hz : s.size ≤ 140737488355328) {i x8 more : Nat} {lo hi : Int} (hi0 : i < s.size) (hx : x8 ≤ more) (hm : more ≤ 3) {r : Bool}
  (h1 : (i + x8 < s.size ∧ lo ≤ bt s ((i + x8 : Nat) : Int) ∧ bt s ((i + x8 : Nat) : Int) ≤ hi) → Ev (fun k => pelorusref12_Utf8.l1 k s i 128 191 more ((x8 + 1 : Nat) : Int)) r)
  (h2 : ¬ (i + x8 < s.size ∧ lo ≤ bt s ((i + x8 : Nat) : Int) ∧ bt s ((i + x8 : Nat) : Int) ≤ hi) → r = false) :
  Ev (fun k => pelorusref12_Utf8.l1 k s i lo hi more (x8 : Int)) r := by
 have e1 : wrap64 ((i : Int) + (x8 : Int)) = ((i + x8 : Nat) : Int) := by rw [wrap64_eq (by omega) (by omega)]; omega
 have e2 : wrap64 ((x8 : Int) + 1) = ((x8 + 1 : Nat) : Int) := by rw [wrap64_eq (by omega) (by omega)]; omega
 refine Ev.step (f := fun k => (pelorusref12_tail.f s (wrap64 ((i : Int) + (x8 : Int))) lo hi).bind fun t => if t < 0 then some false else pelorusref12_Utf8.l1 k s i 128 191 more (wrap64 ((x8 : Int) + 1))) (fun k => by rw [pelorusref12_Utf8.l1, if_pos (by omega)]) ?_
 rw [e1, e2, tail_eq]
 have hb := bt_range s ((i + x8 : Nat) : Int)
 by_cases h : i + x8 < s.size ∧ lo ≤ bt s ((i + x8 : Nat) : Int) ∧ bt s ((i + x8 : Nat) : Int) ≤ hi
 ·rw [if_pos h]
  simp only [Option.bind_some, if_neg (show ¬ bt s ((i + x8 : Nat) : Int) < 0 by omega)]
  exact h1 h
 ·rw [if_neg h, h2 h]
  exact ⟨0, fun k _ => rfl⟩
theorem l1_end {s : ByteArray} (hz : s.size ≤ 140737488355328) {i more : Nat} {lo hi : Int} (hi0 : i < s.size) (hm : more ≤ 3) {r : Bool}
  (h : Ev (fun k => pelorusref12_Utf8.l0 k s ((i + 1 + more : Nat) : Int)) r) : Ev (fun k => pelorusref12_Utf8.l1 k s i lo hi more ((more + 1 : Nat) : Int)) r := by
 have e1 : wrap64 (wrap64 ((i : Int) + 1) + (more : Int)) = ((i + 1 + more : Nat) : Int) := by
  rw [wrap64_eq (x := (i : Int) + 1) (by omega) (by omega), wrap64_eq (by omega) (by omega)]; omega
 refine Ev.step (f := fun k => pelorusref12_Utf8.l0 k s (wrap64 (wrap64 ((i : Int) + 1) + (more : Int)))) (fun k => by rw [pelorusref12_Utf8.l1, if_neg (by omega)]) ?_
 rw [e1]
 exact h
theorem j4_ev {s : ByteArray} {i lo hi more : Int} {r : Bool} (h : Ev (fun k => pelorusref12_Utf8.l1 k s i lo hi more 1) r) : Ev (fun k => pelorusref12_Utf8.j4 k s i lo hi more) r :=
 Ev.step (fun k => by rw [pelorusref12_Utf8.j4]) h
theorem lead_ev {s : ByteArray} (hz : s.size ≤ 140737488355328) {i : Nat} (hi0 : i < s.size) (ih : ∀ j, i < j → j ≤ s.size → Ev (fun k => pelorusref12_Utf8.l0 k s (j : Int)) (validD (s.data.toList.drop j)))
  (lo hi more b0 : Nat) (hb : ((s.data.toList.drop i).getD 0 0).toNat = b0) (h0 : 128 ≤ b0) (hm : more = 1 ∨ more = 2 ∨ more = 3) (hs : firstT b0 % 8 = more + 1) (hlo : accLo (firstT b0 / 16) = lo) (hhi : accHi (firstT b0 / 16) = hi) :
  Ev (fun k => pelorusref12_Utf8.j4 k s i lo hi more) (validD (s.data.toList.drop i)) := by
 have hlen : (s.data.toList.drop i).length = s.size - i := by simp
 have hne : s.data.toList.drop i ≠ [] := fun e => by rw [e] at hlen; simp at hlen; omega
 refine j4_ev ?_
 rw [validD_lead _ hne (by omega), hb, hs, hlo, hhi, hlen]
 have b1 := bt_drop s i 1
 have b2 := bt_drop s i 2
 have b3 := bt_drop s i 3
 generalize ((s.data.toList.drop i).getD 1 0).toNat = c1 at b1 ⊢
 generalize ((s.data.toList.drop i).getD 2 0).toNat = c2 at b2 ⊢
 generalize ((s.data.toList.drop i).getD 3 0).toNat = c3 at b3 ⊢
 have key : ∀ (m : Nat) (c : Bool) (o : Option Nat), (c = true → o = some m) → (c = false → o = none) → i + m ≤ s.size ∨ c = false → 0 < m →
   (c = true → Ev (fun k => pelorusref12_Utf8.l0 k s ((i + m : Nat) : Int)) (validD (s.data.toList.drop (i + m)))) := fun m c o _ _ h3 h4 hc => ih (i + m) (by omega) (by rcases h3 with h3 | h3 <;> simp_all)
 clear key
 rcases hm with rfl | rfl | rfl
 ·unfold checkN
  rw [if_pos rfl]
  refine l1_go hz (x8 := 1) (more := 1) hi0 (by omega) (by omega) (fun h => ?_) (fun h => ?_)
  ·rw [b1] at h
   rw [if_neg (by omega)]
   simp only [List.drop_drop]
   exact l1_end hz hi0 (by omega) (ih (i + 2) (by omega) (by omega))
  ·rw [b1] at h
   rw [if_pos (by omega)]
 ·unfold checkN
  rw [if_neg (by omega), if_pos rfl]
  refine l1_go hz (x8 := 1) (more := 2) hi0 (by omega) (by omega) (fun h => ?_) (fun h => ?_)
  ·rw [b1] at h
   refine l1_go hz (x8 := 2) (more := 2) hi0 (by omega) (by omega) (fun h2 => ?_) (fun h2 => ?_)
   ·rw [b2] at h2
    rw [if_neg (by omega)]
    simp only [List.drop_drop]
    exact l1_end hz hi0 (by omega) (ih (i + 3) (by omega) (by omega))
   ·rw [b2] at h2
    rw [if_pos (by omega)]
  ·rw [b1] at h
   rw [if_pos (by omega)]
 ·unfold checkN
  rw [if_neg (by omega), if_neg (by omega), if_pos rfl]
  refine l1_go hz (x8 := 1) (more := 3) hi0 (by omega) (by omega) (fun h => ?_) (fun h => ?_)
  ·rw [b1] at h
   refine l1_go hz (x8 := 2) (more := 3) hi0 (by omega) (by omega) (fun h2 => ?_) (fun h2 => ?_)
   ·rw [b2] at h2
    refine l1_go hz (x8 := 3) (more := 3) hi0 (by omega) (by omega) (fun h3 => ?_) (fun h3 => ?_)
    ·rw [b3] at h3
     rw [if_neg (by omega)]
     simp only [List.drop_drop]
     exact l1_end hz hi0 (by omega) (ih (i + 4) (by omega) (by omega))
    ·rw [b3] at h3
     rw [if_pos (by omega)]
   ·rw [b2] at h2
    rw [if_pos (by omega)]
  ·rw [b1] at h
   rw [if_pos (by omega)]
theorem lead_bad (l : List UInt8) (b0 : Nat) (hne : l ≠ []) (hb : (l.getD 0 0).toNat = b0) (h0 : 128 ≤ b0) (hs : firstT b0 % 8 = 1) : validD l = false := by
 rw [validD_lead l hne (by omega), hb, hs]
 unfold checkN
 rw [if_neg (by omega), if_neg (by omega), if_neg (by omega)]
theorem utf8_l0 (s : ByteArray) (hz : s.size ≤ 140737488355328) : ∀ d i : Nat, i + d = s.size → Ev (fun k => pelorusref12_Utf8.l0 k s (i : Int)) (validD (s.data.toList.drop i)) := by
 intro d
 induction d using Nat.strongRecOn with
 | _ d IH =>
 intro i hd
 have ih : ∀ j, i < j → j ≤ s.size → Ev (fun k => pelorusref12_Utf8.l0 k s (j : Int)) (validD (s.data.toList.drop j)) := fun j h1 h2 => IH (s.size - j) (by omega) j (by omega)
 clear IH
 by_cases hi : i < s.size
 ·have hlen : (s.data.toList.drop i).length = s.size - i := by simp
  have hne : s.data.toList.drop i ≠ [] := fun e => by rw [e] at hlen; simp at hlen; omega
  have b0e := bt_drop s i 0
  simp only [Nat.add_zero] at b0e
  obtain ⟨b0, hb0⟩ : ∃ b0, ((s.data.toList.drop i).getD 0 0).toNat = b0 := ⟨_, rfl⟩
  rw [hb0] at b0e
  have hlt : b0 < 256 := hb0 ▸ UInt8.toNat_lt _
  refine Ev.step (f := fun k => if (b0 : Int) < 128 then (pelorusref12_Utf8.j4 k s i 128 191 0) else (if (b0 : Int) ≥ 194 then (pelorusref12_Utf8.j1 k s i b0 128 191 (decide ((b0 : Int) ≤ 223))) else (pelorusref12_Utf8.j1 k s i b0 128 191 false))) (fun k => by rw [pelorusref12_Utf8.l0, if_pos (by omega), if_pos (by omega), b0e]) ?_
  by_cases c0 : b0 < 128
  ·simp only [if_pos (show (b0 : Int) < 128 by omega)]
   refine j4_ev (l1_end hz (more := 0) hi (by omega) ?_)
   have e : s.data.toList.drop i = ((s.data.toList.drop i).getD 0 0) :: s.data.toList.drop (i + 1) := by
    have hi2 : i < s.data.toList.length := by simpa using hi
    rw [List.drop_eq_getElem_cons hi2]
    simp
   rw [e, validD_cons _ _ (by omega)]
   exact ih (i + 1) (by omega) (by omega)
  ·simp only [if_neg (show ¬ (b0 : Int) < 128 by omega)]
   have L := fun lo hi' more => lead_ev hz hi ih lo hi' more b0 hb0 (by omega)
   have B := lead_bad _ b0 hne hb0 (by omega)
   have J1 : ∀ {r : Bool}, (b0 < 194 ∨ 224 ≤ b0) → Ev (fun k => if (b0 : Int) ≥ 224 then (pelorusref12_Utf8.j2 k s i b0 128 191 (decide ((b0 : Int) ≤ 239))) else (pelorusref12_Utf8.j2 k s i b0 128 191 false)) r → Ev (fun k => if (b0 : Int) ≥ 194 then (pelorusref12_Utf8.j1 k s i b0 128 191 (decide ((b0 : Int) ≤ 223))) else (pelorusref12_Utf8.j1 k s i b0 128 191 false)) r := fun hb h => by
    have e : ∀ c : Bool, c = false → Ev (fun k => pelorusref12_Utf8.j1 k s i b0 128 191 c) _ := fun c hc => by
     subst hc
     exact Ev.step (fun k => by rw [pelorusref12_Utf8.j1, if_neg (by decide)]) h
    by_cases h194 : (b0 : Int) ≥ 194
    ·simp only [if_pos h194]; exact e _ (by simp; omega)
    ·simp only [if_neg h194]; exact e _ rfl
   have J2 : ∀ {r : Bool}, (b0 < 224 ∨ 240 ≤ b0) → Ev (fun k => if (b0 : Int) ≥ 240 then (pelorusref12_Utf8.j3 k s i b0 128 191 (decide ((b0 : Int) ≤ 244))) else (pelorusref12_Utf8.j3 k s i b0 128 191 false)) r → Ev (fun k => if (b0 : Int) ≥ 224 then (pelorusref12_Utf8.j2 k s i b0 128 191 (decide ((b0 : Int) ≤ 239))) else (pelorusref12_Utf8.j2 k s i b0 128 191 false)) r := fun hb h => by
    have e : ∀ c : Bool, c = false → Ev (fun k => pelorusref12_Utf8.j2 k s i b0 128 191 c) _ := fun c hc => by
     subst hc
     exact Ev.step (fun k => by rw [pelorusref12_Utf8.j2, if_neg (by decide)]) h
    by_cases h224 : (b0 : Int) ≥ 224
    ·simp only [if_pos h224]; exact e _ (by simp; omega)
    ·simp only [if_neg h224]; exact e _ rfl
   have J3 : ∀ {r : Bool}, (b0 < 240 ∨ 245 ≤ b0) → r = false → Ev (fun k => if (b0 : Int) ≥ 240 then (pelorusref12_Utf8.j3 k s i b0 128 191 (decide ((b0 : Int) ≤ 244))) else (pelorusref12_Utf8.j3 k s i b0 128 191 false)) r := fun hb h => by
    subst h
    have e : ∀ c : Bool, c = false → Ev (fun k => pelorusref12_Utf8.j3 k s i b0 128 191 c) false := fun c hc => by
     subst hc
     exact Ev.step (f := fun _ => some false) (fun k => by rw [pelorusref12_Utf8.j3, if_neg (by decide)]) (Ev.now false)
    by_cases h240 : (b0 : Int) ≥ 240
    ·simp only [if_pos h240]; exact e _ (by simp; omega)
    ·simp only [if_neg h240]; exact e _ rfl
   by_cases c1 : b0 < 194
   ·exact J1 (.inl c1) (J2 (.inl (by omega)) (J3 (.inl (by omega)) (B (by simp [firstT, c0, c1]))))
   by_cases c2 : b0 < 224
   ·simp only [if_pos (show (b0 : Int) ≥ 194 by omega), show decide ((b0 : Int) ≤ 223) = true from by simp; omega]
    exact Ev.step (fun k => by rw [pelorusref12_Utf8.j1, if_pos rfl]; rfl) (L 128 191 1 (by omega) (by simp [firstT, c0, c1, c2]) (by simp [firstT, accLo, c0, c1, c2]) (by simp [firstT, accHi, c0, c1, c2]))
   by_cases c3 : b0 < 240
   ·refine J1 (.inr (by omega)) ?_
    simp only [if_pos (show (b0 : Int) ≥ 224 by omega), show decide ((b0 : Int) ≤ 239) = true from by simp; omega]
    by_cases d1 : b0 = 224
    ·subst d1
     exact Ev.step (fun k => by rw [pelorusref12_Utf8.j2]; rfl) (L 160 191 2 (by omega) (by decide) (by decide) (by decide))
    by_cases d2 : b0 = 237
    ·subst d2
     exact Ev.step (fun k => by rw [pelorusref12_Utf8.j2]; rfl) (L 128 159 2 (by omega) (by decide) (by decide) (by decide))
    refine Ev.step (fun k => by rw [pelorusref12_Utf8.j2, if_pos rfl, if_neg (by omega), if_neg (by omega)]; rfl) (L 128 191 2 (by omega) ?_ ?_ ?_)
    all_goals
     by_cases d3 : b0 < 237
     ·simp [firstT, accLo, accHi, c0, c1, c2, d1, d3]
     ·simp [firstT, accLo, accHi, c0, c1, c2, d1, d2, d3, c3]
   by_cases c4 : b0 < 245
   ·refine J1 (.inr (by omega)) (J2 (.inr (by omega)) ?_)
    simp only [if_pos (show (b0 : Int) ≥ 240 by omega), show decide ((b0 : Int) ≤ 244) = true from by simp; omega]
    by_cases d1 : b0 = 240
    ·subst d1
     exact Ev.step (fun k => by rw [pelorusref12_Utf8.j3]; rfl) (L 144 191 3 (by omega) (by decide) (by decide) (by decide))
    by_cases d2 : b0 = 244
    ·subst d2
     exact Ev.step (fun k => by rw [pelorusref12_Utf8.j3]; rfl) (L 128 143 3 (by omega) (by decide) (by decide) (by decide))
    have d3 : b0 < 244 := by omega
    have d4 : ¬ b0 = 224 := by omega
    have d5 : ¬ b0 < 237 := by omega
    have d6 : ¬ b0 = 237 := by omega
    exact Ev.step (fun k => by rw [pelorusref12_Utf8.j3, if_pos rfl, if_neg (by omega), if_neg (by omega)]; rfl) (L 128 191 3 (by omega) (by simp [firstT, c0, c1, c2, c3, d1, d3, d4, d5, d6]) (by simp [firstT, accLo, c0, c1, c2, c3, d1, d3, d4, d5, d6]) (by simp [firstT, accHi, c0, c1, c2, c3, d1, d3, d4, d5, d6]))
   ·have d3 : ¬ b0 < 244 := by omega
    have d4 : ¬ b0 = 224 := by omega
    have d5 : ¬ b0 < 237 := by omega
    have d6 : ¬ b0 = 237 := by omega
    have d7 : ¬ b0 = 240 := by omega
    have d8 : ¬ b0 = 244 := by omega
    exact J1 (.inr (by omega)) (J2 (.inr (by omega)) (J3 (.inr (by omega)) (B (by simp [firstT, c0, c1, c2, c3, d3, d4, d5, d6, d7, d8]))))
 ·refine Ev.step (f := fun _ => some true) (fun k => by rw [pelorusref12_Utf8.l0, if_neg (by omega)]) ?_
  rw [List.drop_eq_nil_of_le (by simp; omega), validD_nil]
  exact Ev.now true
theorem utf8_ev (s : ByteArray) (hz : s.size ≤ 140737488355328) : Ev (fun k => pelorusref12_Utf8.f k s) (validD s.data.toList) := utf8_l0 s hz s.size 0 (by omega)
end Go.Proofs.YtkdoijfjceeblaaDoor.Pure13
namespace Go.Proofs.YtkdoijfjceeblaaDoor.ENames
open Go Go.RowKit Go.Lib Go.Proofs.YtkdoijfjceeblaaDoor.F Go.Proofs.YtkdoijfjceeblaaDoorW.Hand Go.Proofs.YtkdoijfjceeblaaDoorW.PrintWords Go.Proofs.YtkdoijfjceeblaaDoorW.PrintLast Go.Proofs.YtkdoijfjceeblaaDoorW.PrintMore Go.Proofs.YtkdoijfjceeblaaDoor.LebMath Go.Proofs.YtkdoijfjceeblaaDoor.LebFns Go.Proofs.YtkdoijfjceeblaaDoor.LebGets Go.Proofs.YtkdoijfjceeblaaDoor.Pure13
set_option linter.unusedVariables false
set_option linter.unusedSimpArgs false
def Tabs (w : World) : Prop := Utf8Tabs 0 1 w
theorem tabs_below {w w1 : World} (h : Tabs w) (hb : Below w.heap.size w w1) : Tabs w1 := Utf8Tabs_below h hb
def nmay (s : ByteArray) : Bool := decide (s.size ≤ 64) && validD s.data.toList
def nget (s : ByteArray) (a : Int) : ByteArray × Int × Int :=
 if (G s a 32).2.2 ≠ 0 ∨ (G s a 32).1 > (s.size : Int) - (G s a 32).2.1 then (⟨#[]⟩, 0, 1300) else if (G s a 32).1 > 64 then (⟨#[]⟩, 0, 1301)
 else if validD (s.extract (G s a 32).2.1.toNat ((G s a 32).2.1.toNat + (G s a 32).1.toNat)).data.toList then (s.extract (G s a 32).2.1.toNat ((G s a 32).2.1.toNat + (G s a 32).1.toNat), (G s a 32).2.1 + (G s a 32).1, 0) else (⟨#[]⟩, 0, 1300)
theorem T5_lt (s : ByteArray) (a : Int) (n : Nat) (hn : n ≤ 5) : T (byt s a) 0 n < 128 ^ 5 := by
 have := T_lt (byt s a) n 0
 have h2 : (128 : Int) ^ n ≤ 128 ^ 5 := by
  rcases n with _ | _ | _ | _ | _ | _ | n <;> first | decide | omega
 omega
theorem G_form (s : ByteArray) (a : Int) : (∃ n p : Nat, G s a 32 = ((n : Int), (p : Int), 0) ∧ n < 34359738368 ∧ p ≤ s.size) ∨ ∃ e : Int, e ≠ 0 ∧ G s a 32 = (0, 0, e) := by
 by_cases hf : Fit s a 32
 ·rcases scan_or (byt s a) ((s.size : Int) - a).toNat (mo 32) with ⟨n, h1, h2, h3, h4, _⟩ | ⟨h, _⟩
  ·rw [G_ok hf h4]
   unfold gres
   obtain ⟨_, h0, hs, _⟩ := hf
   have h5 := T_nonneg (byt s a) n 0
   have h6 := T5_lt s a n h2
   by_cases c : n = mo 32 ∧ byt s a (n - 1) / hw 32 ≠ 0
   ·rw [if_pos c]; exact .inr ⟨1200, by decide, rfl⟩
   ·rw [if_neg c]
    refine .inl ⟨(T (byt s a) 0 n).toNat, (a + n).toNat, ?_, by omega, by omega⟩
    rw [wrap64_eq (by omega) (by omega)]
    congr 1
    ·omega
    ·congr 1; omega
  ·exact .inr ⟨_, h, G_err hf h⟩
 ·exact .inr ⟨1200, by decide, G_not hf⟩
theorem may_ev (s : ByteArray) (hz : s.size ≤ 140737488355328) : Ev (fun k => pelorusref12_NameMay.f k s) (nmay s) := by
 unfold pelorusref12_NameMay.f nmay
 by_cases h : s.size ≤ 64
 ·simp only [if_pos (show (s.size : Int) ≤ 64 by omega), decide_eq_true h, Bool.true_and]
  exact Ev.bind (utf8_ev s hz) (Ev.now _)
 ·simp only [if_neg (show ¬ (s.size : Int) ≤ 64 by omega), decide_eq_false h, Bool.false_and]
  exact Ev.now _
theorem below_drawn {w w1 : World} (h : Drawn0 w w1) : Below w.heap.size w w1 := h.below
theorem valid_calls (s : ByteArray) (w : World) (hs : s.size ≤ 140737488355328) (hT : Tabs w) : Calls Tryd.prog 67 #[.string s] w fun e w' => e = .returned (.bool (validD s.data.toList)) ∧ Below w.heap.size w w' :=
 Any.utf8_ValidString Tryd.laysValid s w (by omega) hT
theorem lebget_calls (s : ByteArray) (a : Int) (w : World) (hs : s.size ≤ 140737488355328) {n p e : Int} (h : G s a 32 = (n, p, e)) : Calls Tryd.prog 34 #[.string s, .int .i64 a, .int .i64 32] w fun e' w' => e' = .returned (.tuple #[.int .i64 n, .int .i64 p, .int .i64 e]) ∧ Below w.heap.size w w' := by
 have he := get_ev s a 32 hs
 rw [h] at he
 obtain ⟨k, hk⟩ := Ev.rounds he
 exact (leb_Get.calls k s a 32 n p e w hk).mono fun _ _ h => ⟨h.1, by first | exact h.2 | exact below_drawn h.2⟩
set_option maxHeartbeats 4000000 in
set_option maxRecDepth 100000 in
theorem get_calls (s : ByteArray) (a : Int) (w : World) (hs : s.size ≤ 140737488355328) (hT : Tabs w) : Calls Tryd.prog 58 #[.string s, .int .i64 a] w fun e w' => e = .returned (.tuple #[.string (nget s a).1, .int .i64 (nget s a).2.1, .int .i64 (nget s a).2.2]) ∧ Below w.heap.size w w' := by
 unfold nget
 rcases G_form s a with ⟨n, p, hG, hn, hp⟩ | ⟨e, he, hG⟩
 ·have CG := am (lebget_calls s a w hs hG)
  rw [hG]
  simp only [ne_eq, not_true_eq_false, false_or, Int.toNat_natCast]
  clear hG
  by_cases h1 : (n : Int) > (s.size : Int) - p
  ·rw [if_pos h1]
   have d : decide ((s.size : Int) - (p : Int) < (n : Int)) = true := decide_eq_true h1
   clear h1
   go_enter Tryd.func58, Tryd.ntmps58
   go_wp2_with (go_at_call 34; (with_reducible refine CG.out.mono ?_); rintro e w1 ⟨rfl, hb⟩; have HB := am hb; clear hb)
   go_ret3
   exact ⟨rfl, HB.out⟩
  ·rw [if_neg h1]
   have d : decide ((s.size : Int) - (p : Int) < (n : Int)) = false := decide_eq_false h1
   by_cases h2 : (n : Int) > 64
   ·rw [if_pos h2]
    have d2 : decide ((64 : Int) < (n : Int)) = true := decide_eq_true h2
    clear h1 h2
    go_enter Tryd.func58, Tryd.ntmps58
    go_wp2_with (go_at_call 34; (with_reducible refine CG.out.mono ?_); rintro e w1 ⟨rfl, hb⟩; have HB := am hb; clear hb)
    go_ret3
    exact ⟨rfl, HB.out⟩
   ·rw [if_neg h2]
    have d2 : decide ((64 : Int) < (n : Int)) = false := decide_eq_false h2
    have hes : (s.extract p (p + n)).size ≤ 140737488355328 := by rw [ByteArray.size_extract]; omega
    have CV : Aside0 (∀ W, Below w.heap.size w W → Calls Tryd.prog 67 #[.string (s.extract p (p + n))] W fun e w' => e = .returned (.bool (validD (s.extract p (p + n)).data.toList)) ∧ Below W.heap.size W w') := ⟨fun W hb => valid_calls _ W hes (tabs_below hT hb)⟩
    have hpn : p + n ≤ s.size := by omega
    obtain ⟨P, hP⟩ : ∃ P : Int, (p : Int) = P := ⟨_, rfl⟩
    obtain ⟨N, hN⟩ : ∃ N : Int, (n : Int) = N := ⟨_, rfl⟩
    have hw : wrap64 (P + N) = P + N := wrap64_eq (by omega) (by omega)
    have ex : s.extract p (p + n) = s.extract P.toNat (wrap64 (P + N)).toNat := by rw [hw, ← hP, ← hN]; congr 1
    have e2 : (p : Int) + n = wrap64 (P + N) := by rw [hw, hP, hN]
    rw [e2]
    rw [hP, hN] at CG d
    rw [hN] at d2
    rw [ex] at CV ⊢
    have q0 : (0 ≤ P) = True := eq_true (by omega)
    have q1 : decide (0 ≤ P) = true := decide_eq_true (by omega)
    have q2 : (P ≤ wrap64 (P + N)) = True := eq_true (by omega)
    have q3 : decide (P ≤ wrap64 (P + N)) = true := decide_eq_true (by omega)
    have q4 : (wrap64 (P + N) ≤ (s.size : Int)) = True := eq_true (by omega)
    have q5 : decide (wrap64 (P + N) ≤ (s.size : Int)) = true := decide_eq_true (by omega)
    have d3 : wrap64 ((s.size : Int) - P) = (s.size : Int) - P := wrap64_eq (by omega) (by omega)
    clear h1 h2 hT hes hpn hw ex e2 hn hp hs hP hN
    generalize validD (s.extract P.toNat (wrap64 (P + N)).toNat).data.toList = V at CV
    cases V
    ·rw [if_neg (by decide)]
     go_enter Tryd.func58, Tryd.ntmps58
     go_wp2_with (first | (go_at_call 34; (with_reducible refine CG.out.mono ?_); rintro e w1 ⟨rfl, hb⟩; have HB := am hb; clear hb) | (go_at_call 67; (with_reducible refine (CV.out _ HB.out).mono ?_); rintro e w2 ⟨rfl, hb⟩; have HB2 := am (below_step HB.out hb); clear hb))
     go_ret3
     exact ⟨rfl, HB2.out⟩
    ·rw [if_pos rfl]
     go_enter Tryd.func58, Tryd.ntmps58
     go_wp2_with (first | (go_at_call 34; (with_reducible refine CG.out.mono ?_); rintro e w1 ⟨rfl, hb⟩; have HB := am hb; clear hb) | (go_at_call 67; (with_reducible refine (CV.out _ HB.out).mono ?_); rintro e w2 ⟨rfl, hb⟩; have HB2 := am (below_step HB.out hb); clear hb))
     go_ret3
     exact ⟨rfl, HB2.out⟩
 ·have CG := am (lebget_calls s a w hs hG)
  rw [hG]
  simp only [ne_eq, he, not_false_eq_true, true_or, if_true]
  have d : (e != 0) = true := bne_iff_ne.mpr he
  clear hG he hT
  go_enter Tryd.func58, Tryd.ntmps58
  go_wp2_with (go_at_call 34; (with_reducible refine CG.out.mono ?_); rintro e w1 ⟨rfl, hb⟩; have HB := am hb; clear hb)
  go_ret3
  exact ⟨rfl, HB.out⟩
end Go.Proofs.YtkdoijfjceeblaaDoor.ENames
