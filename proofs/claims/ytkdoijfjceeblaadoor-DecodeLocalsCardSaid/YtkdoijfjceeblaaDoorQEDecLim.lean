/-
  What the claim leans on, in the order of its making: words about values and worlds, the printed functions, the decoder in plain words and its walk. Cut to what is used by wip/tools/prune15.py. (EDecLim)
-/
import Derived.Test.YtkdoijfjceeblaaDoorQEDecP
namespace Go.Proofs.YtkdoijfjceeblaaDoor.EDec
open Go Go.RowKit Go.Proofs.YtkdoijfjceeblaaDoor.F Go.Proofs.YtkdoijfjceeblaaDoorW.Hand Go.Proofs.YtkdoijfjceeblaaDoorW.PrintWords Go.Proofs.YtkdoijfjceeblaaDoorW.PrintLast Go.Proofs.YtkdoijfjceeblaaDoorW.PrintMore
open Go.Proofs.YtkdoijfjceeblaaDoor.LebGets (G)
open Go.Proofs.YtkdoijfjceeblaaDoor.ENames (Tabs tabs_below nget nmay)
open Go.Proofs.YtkdoijfjceeblaaDoor.EInstr (GRes pGet get_b ret_int wrap_bt)
set_option linter.unusedVariables false
set_option linter.unusedSimpArgs false
open Go.Proofs.YtkdoijfjceeblaaDoor.LebBacks (bt_append bt_str)
theorem bt_mid {p q : ByteArray} {b : Int} (hb : 0 ≤ b ∧ b < 256) : bt (p ++ strOfNums [b] ++ q) p.size = b := by
  have z1 : (strOfNums [b]).size = 1 := str_size _
  have h := bt_append (p ++ strOfNums [b]) q p.size
  rw [if_pos (by rw [ByteArray.size_append, z1]; omega)] at h
  have h2 := bt_append p (strOfNums [b]) p.size
  rw [if_neg (by omega)] at h2
  rw [h, h2]
  rw [show (p.size - p.size : Nat) = 0 by omega]
  exact bt_str [b] 0 hb
theorem oct_at {p q : ByteArray} {b : Int} (hb : 0 ≤ b ∧ b < 256) : dOct (p ++ strOfNums [b] ++ q) p.size = .ok (b, (p.size : Int) + 1) := by
  have z1 : (strOfNums [b]).size = 1 := str_size _
  rw [dOct, if_pos (by rw [ByteArray.size_append, ByteArray.size_append, z1]; omega), bt_mid hb]
theorem num_at {p q : ByteArray} {x : Int} (h0 : 0 ≤ x) (h1 : x < 4294967296) (hz : (p ++ lebS x ++ q).size ≤ 140737488355328) : dNum (p ++ lebS x ++ q) p.size = .ok (x, (p.size : Int) + (lebS x).size) := by
  unfold dNum
  rw [lebS_get h0 h1 hz]; rfl
def limS (f x y : Int) : ByteArray := if f = 1 then strOfNums [f] ++ lebS x ++ lebS y else strOfNums [f] ++ lebS x
def limV (f x y : Int) : S54 := if f = 1 then ⟨x, y⟩ else ⟨x, -1⟩
theorem limS_size (f x y : Int) : (limS f x y).size ≤ 21 ∧ 1 ≤ (limS f x y).size := by
  have := lebS_size x
  have := lebS_size y
  unfold limS
  split <;> simp only [ByteArray.size_append, str_size, List.length_cons, List.length_nil] <;> omega
theorem lim_at {p : ByteArray} {f x y : Int} (hf : f = 0 ∨ f = 1) (hx : 0 ≤ x ∧ x < 4294967296) (hy : 0 ≤ y ∧ y < 4294967296) (hp : p.size ≤ 1000) : dLimits (p ++ limS f x y) p.size = .ok (limV f x y, ((p ++ limS f x y).size : Int)) := by
  have zx := lebS_size x
  have zy := lebS_size y
  have z1 : (strOfNums [f]).size = 1 := str_size _
  have hfr : 0 ≤ f ∧ f < 256 := by omega
  have e1 : p ++ limS f x y = p ++ strOfNums [f] ++ (if f = 1 then lebS x ++ lebS y else lebS x) := by
    unfold limS; split <;> simp only [ByteArray.append_assoc]
  have e2 : p ++ limS f x y = p ++ strOfNums [f] ++ lebS x ++ (if f = 1 then lebS y else ⟨#[]⟩) := by
    unfold limS; split <;> simp only [ByteArray.append_assoc, app_nil]
  have zz : (p ++ limS f x y).size = p.size + 1 + (lebS x).size + (if f = 1 then (lebS y).size else 0) := by
    rw [e2]; split <;> simp only [ByteArray.size_append, z1] <;> rfl
  have hO := oct_at (p := p) (q := (if f = 1 then lebS x ++ lebS y else lebS x)) hfr
  rw [← e1] at hO
  have hN := num_at (p := p ++ strOfNums [f]) (q := (if f = 1 then lebS y else ⟨#[]⟩)) hx.1 hx.2 (by rw [← e2, zz]; split <;> omega)
  rw [← e2, ByteArray.size_append, z1] at hN
  have hF : dFlag (p ++ limS f x y) p.size = .ok (f == 1, (p.size : Int) + 1) := by
    unfold dFlag
    rw [hO]
    show (if f ≤ 1 then _ else _) = _
    rw [if_pos (by omega)]
  unfold dLimits
  rw [hF]
  show bnd (dNum _ ((p.size : Int) + 1)) _ = _
  have hN' : dNum (p ++ limS f x y) ((p.size : Int) + 1) = .ok (x, (p.size : Int) + 1 + (lebS x).size) := by
    rw [show ((p.size : Int) + 1) = ((p.size + 1 : Nat) : Int) by omega]; exact hN
  rw [hN']
  show (if (f == 1) = true then _ else _) = _
  obtain rfl | rfl := hf
  · rw [if_neg (by decide), limV, if_neg (by decide), zz, if_neg (by decide)]
    congr 2
  · have e3 : p ++ limS 1 x y = p ++ strOfNums [1] ++ lebS x ++ lebS y ++ ⟨#[]⟩ := by
      rw [limS, if_pos rfl, app_nil]; simp only [ByteArray.append_assoc]
    have hM := num_at (p := p ++ strOfNums [1] ++ lebS x) (q := ⟨#[]⟩) hy.1 hy.2 (by rw [← e3, zz]; split <;> omega)
    rw [← e3] at hM
    have hM' : dNum (p ++ limS 1 x y) ((p.size : Int) + 1 + (lebS x).size) = .ok (y, (p.size : Int) + 1 + (lebS x).size + (lebS y).size) := by
      have : (((p ++ strOfNums [1] ++ lebS x).size : Nat) : Int) = (p.size : Int) + 1 + (lebS x).size := by
        simp only [ByteArray.size_append, z1]; omega
      rw [this] at hM
      exact hM
    rw [if_pos (by decide), bnd_ok hM', limV, if_pos rfl, zz, if_pos rfl]
    congr 2
theorem lim_er {p : ByteArray} {f x y : Int} (hf : 2 ≤ f ∧ f < 256) : dLimits (p ++ limS f x y) p.size = .error 1506 := by
  have e1 : p ++ limS f x y = p ++ strOfNums [f] ++ lebS x := by
    unfold limS; rw [if_neg (by omega)]; simp only [ByteArray.append_assoc]
  rw [e1]
  unfold dLimits dFlag
  rw [oct_at ⟨by omega, hf.2⟩]
  show bnd (if f ≤ 1 then _ else _) _ = _
  rw [if_neg (by omega)]
  rfl
theorem one_list {α : Type} {B : ByteArray} {f : Int → PR α} {most : Int} (hm : 1 ≤ most) (hB : B.size ≤ 1000) : dList ((⟨#[1]⟩ : ByteArray) ++ B) most f 0 = bnd (f 1) fun v a => .ok ([v], a) := by
  have hn := num_at (p := ⟨#[]⟩) (x := 1) (q := B) (by omega) (by omega) (by have := lebS_size 1; rw [nil_app, ByteArray.size_append]; omega)
  rw [nil_app, show lebS 1 = ⟨#[1]⟩ by kernel_rfl, show ((⟨#[]⟩ : ByteArray).size : Int) = 0 from rfl] at hn
  unfold dList
  rw [hn]
  show (if (1 : Int) ≤ most then _ else _) = _
  rw [if_pos hm]
  show dRep f 1 1 = _
  unfold dRep
  cases h : f 1 with
  | error c => rfl
  | ok v => obtain ⟨v, a⟩ := v; rfl
def tabS (b f x y : Int) : ByteArray := (⟨#[1]⟩ : ByteArray) ++ (strOfNums [b] ++ limS f x y)
def memS (f x y : Int) : ByteArray := (⟨#[1]⟩ : ByteArray) ++ limS f x y
theorem tabS_size (b f x y : Int) : (tabS b f x y).size ≤ 23 := by
  have := (limS_size f x y).1
  have h1 : (⟨#[1]⟩ : ByteArray).size = 1 := rfl
  rw [tabS, ByteArray.size_append, ByteArray.size_append, str_size, h1]; simp only [List.length_cons, List.length_nil]; omega
theorem memS_size (f x y : Int) : (memS f x y).size ≤ 22 := by
  have := (limS_size f x y).1
  have h1 : (⟨#[1]⟩ : ByteArray).size = 1 := rfl
  rw [memS, ByteArray.size_append, h1]; omega
theorem table_at {b f x y : Int} (hb : 0 ≤ b ∧ b < 256) : dTable (tabS b f x y) 1 = if b = 112 then dLimits (tabS b f x y) 2 else .error 1506 := by
  have h1 : (⟨#[1]⟩ : ByteArray).size = 1 := rfl
  have hO := oct_at (p := (⟨#[1]⟩ : ByteArray)) (q := limS f x y) hb
  rw [ByteArray.append_assoc, ← tabS, h1] at hO
  unfold dTable dExact
  rw [show ((1 : Nat) : Int) = 1 from rfl] at hO
  rw [hO]
  show bnd (if b = 112 then _ else _) _ = _
  by_cases hb : b = 112
  · rw [if_pos hb, if_pos hb]
    show bnd (dLimits (tabS b f x y) 2) _ = _
    cases dLimits (tabS b f x y) 2 <;> rfl
  · rw [if_neg hb, if_neg hb]; rfl
theorem tab_lim {f x y : Int} : tabS 112 f x y = (⟨#[1, 112]⟩ : ByteArray) ++ limS f x y := by
  rw [tabS, ← ByteArray.append_assoc]; congr 1
theorem limT_ok {f x y : Int} (hf : f = 0 ∨ f = 1) (hx : 0 ≤ x ∧ x < 4294967296) (hy : 0 ≤ y ∧ y < 4294967296) : dMod (({ data := #[0, 97, 115, 109, 1, 0, 0, 0] } : ByteArray) ++ secS 4 (tabS 112 f x y)) = .ok { m0 with tables := [limV f x y] } := by
  have z := tabS_size 112 f x y
  have z2 := secS_size 4 (tabS 112 f x y)
  have h2 : (⟨#[1, 112]⟩ : ByteArray).size = 2 := rfl
  have hl := lim_at (p := (⟨#[1, 112]⟩ : ByteArray)) hf hx hy (by omega)
  rw [← tab_lim, h2] at hl
  have hd : dSec (tabS 112 f x y) 4 m0 = .ok { m0 with tables := [limV f x y] } := by
    simp (decide := true) only [dSec, if_true, if_false]
    have := one_list (B := strOfNums [112] ++ limS f x y) (f := dTable (tabS 112 f x y)) (most := 1024) (by omega) (by have := (limS_size f x y).1; rw [ByteArray.size_append, str_size]; simp only [List.length_cons, List.length_nil]; omega)
    rw [← tabS, table_at (by omega), if_pos rfl, show (2 : Int) = ((2 : Nat) : Int) from rfl, hl] at this
    rw [this]
    simp [secA, bnd]
  rw [mod_one (by omega) (by omega), if_neg (by omega), hd]
  rfl
theorem limT_er {b f x y : Int} (hb : 0 ≤ b ∧ b < 256) (h : b ≠ 112 ∨ 2 ≤ f) (hf : 0 ≤ f ∧ f < 256) : dMod (({ data := #[0, 97, 115, 109, 1, 0, 0, 0] } : ByteArray) ++ secS 4 (tabS b f x y)) = .error 1506 := by
  have z := tabS_size b f x y
  have z2 := secS_size 4 (tabS b f x y)
  have h2 : (⟨#[1, 112]⟩ : ByteArray).size = 2 := rfl
  have ht : dTable (tabS b f x y) 1 = .error 1506 := by
    rw [table_at hb]
    by_cases h3 : b = 112
    · subst h3
      have hl := lim_er (p := (⟨#[1, 112]⟩ : ByteArray)) (f := f) (x := x) (y := y) ⟨by omega, hf.2⟩
      rw [← tab_lim, h2] at hl
      rw [if_pos rfl, show (2 : Int) = ((2 : Nat) : Int) from rfl, hl]
    · rw [if_neg h3]
  have hd : dSec (tabS b f x y) 4 m0 = .error 1506 := by
    simp (decide := true) only [dSec, if_true, if_false]
    have := one_list (B := strOfNums [b] ++ limS f x y) (f := dTable (tabS b f x y)) (most := 1024) (by omega) (by have := (limS_size f x y).1; rw [ByteArray.size_append, str_size]; simp only [List.length_cons, List.length_nil]; omega)
    rw [← tabS, ht] at this
    rw [this]
    rfl
  rw [mod_one (by omega) (by omega), if_neg (by omega), hd]
theorem limM_ok {f x y : Int} (hf : f = 0 ∨ f = 1) (hx : 0 ≤ x ∧ x < 4294967296) (hy : 0 ≤ y ∧ y < 4294967296) : dMod (({ data := #[0, 97, 115, 109, 1, 0, 0, 0] } : ByteArray) ++ secS 5 (memS f x y)) = .ok { m0 with mems := [limV f x y] } := by
  have z := memS_size f x y
  have z2 := secS_size 5 (memS f x y)
  have h1 : (⟨#[1]⟩ : ByteArray).size = 1 := rfl
  have hl := lim_at (p := (⟨#[1]⟩ : ByteArray)) hf hx hy (by omega)
  rw [← memS, h1] at hl
  have hd : dSec (memS f x y) 5 m0 = .ok { m0 with mems := [limV f x y] } := by
    simp (decide := true) only [dSec, if_true, if_false]
    have := one_list (B := limS f x y) (f := dLimits (memS f x y)) (most := 1024) (by omega) (by have := (limS_size f x y).1; omega)
    rw [← memS, show (1 : Int) = ((1 : Nat) : Int) from rfl, hl] at this
    rw [this]
    simp [secA, bnd]
  rw [mod_one (by omega) (by omega), if_neg (by omega), hd]
  rfl
theorem limM_er {f x y : Int} (hf : 2 ≤ f ∧ f < 256) : dMod (({ data := #[0, 97, 115, 109, 1, 0, 0, 0] } : ByteArray) ++ secS 5 (memS f x y)) = .error 1506 := by
  have z := memS_size f x y
  have z2 := secS_size 5 (memS f x y)
  have h1 : (⟨#[1]⟩ : ByteArray).size = 1 := rfl
  have hl := lim_er (p := (⟨#[1]⟩ : ByteArray)) (f := f) (x := x) (y := y) hf
  rw [← memS, h1] at hl
  have hd : dSec (memS f x y) 5 m0 = .error 1506 := by
    simp (decide := true) only [dSec, if_true, if_false]
    have := one_list (B := limS f x y) (f := dLimits (memS f x y)) (most := 1024) (by omega) (by have := (limS_size f x y).1; omega)
    rw [← memS, show (1 : Int) = ((1 : Nat) : Int) from rfl, hl] at this
    rw [this]
    rfl
  rw [mod_one (by omega) (by omega), if_neg (by omega), hd]
end Go.Proofs.YtkdoijfjceeblaaDoor.EDec
