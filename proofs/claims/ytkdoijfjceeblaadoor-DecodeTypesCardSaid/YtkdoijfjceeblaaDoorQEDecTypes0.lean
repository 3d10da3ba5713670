/-
  What the claim leans on, in the order of its making: words about values and worlds, the printed functions, the decoder in plain words and its walk. Cut to what is used by wip/tools/prune15.py. (EDecTypes0)
-/
import Derived.Test.YtkdoijfjceeblaaDoorQEDecZ
namespace Go.Proofs.YtkdoijfjceeblaaDoor.EDec
open Go Go.RowKit Go.Proofs.YtkdoijfjceeblaaDoor.F Go.Proofs.YtkdoijfjceeblaaDoorW.Hand Go.Proofs.YtkdoijfjceeblaaDoorW.PrintWords Go.Proofs.YtkdoijfjceeblaaDoorW.PrintLast Go.Proofs.YtkdoijfjceeblaaDoorW.PrintMore
open Go.Proofs.YtkdoijfjceeblaaDoor.LebGets (G)
open Go.Proofs.YtkdoijfjceeblaaDoor.ENames (Tabs tabs_below nget nmay)
open Go.Proofs.YtkdoijfjceeblaaDoor.EInstr (GRes pGet get_b ret_int wrap_bt)
set_option linter.unusedVariables false
set_option linter.unusedSimpArgs false
def tS (f p q : Int) : ByteArray := strOfNums [1, f, 1, p, 1, q]
def dT (f p q : Int) : ByteArray := ({ data := #[0, 97, 115, 109, 1, 0, 0, 0] } : ByteArray) ++ secS 1 (tS f p q)
theorem types_f (p q : Int) : ((List.range 256).all fun f => f == 96 || isEr (dT (f : Int) p q) 1506) = true := by kernel_rfl
theorem types_p (q : Int) : ((List.range 256).all fun p => (decide (124 ≤ p) && decide (p ≤ 127)) || isEr (dT 96 (p : Int) q) 1506) = true := by kernel_rfl
theorem types_q124 : ((List.range 256).all fun q => (decide (124 ≤ q) && decide (q ≤ 127)) || isEr (dT 96 124 (q : Int)) 1506) = true := by kernel_rfl
theorem types_q125 : ((List.range 256).all fun q => (decide (124 ≤ q) && decide (q ≤ 127)) || isEr (dT 96 125 (q : Int)) 1506) = true := by kernel_rfl
theorem types_q126 : ((List.range 256).all fun q => (decide (124 ≤ q) && decide (q ≤ 127)) || isEr (dT 96 126 (q : Int)) 1506) = true := by kernel_rfl
theorem types_q127 : ((List.range 256).all fun q => (decide (124 ≤ q) && decide (q ≤ 127)) || isEr (dT 96 127 (q : Int)) 1506) = true := by kernel_rfl
theorem types_q {p : Int} (h : 124 ≤ p ∧ p ≤ 127) : ((List.range 256).all fun q => (decide (124 ≤ q) && decide (q ≤ 127)) || isEr (dT 96 p (q : Int)) 1506) = true := by
  obtain h | h | h | h : p = 124 ∨ p = 125 ∨ p = 126 ∨ p = 127 := by omega
  · rw [h]; exact types_q124
  · rw [h]; exact types_q125
  · rw [h]; exact types_q126
  · rw [h]; exact types_q127
theorem types_er {f p q : Int} (hf : 0 ≤ f ∧ f < 256) (hp : 0 ≤ p ∧ p < 256) (hq : 0 ≤ q ∧ q < 256) (h : ¬ (f = 96 ∧ 124 ≤ p ∧ p ≤ 127 ∧ 124 ≤ q ∧ q ≤ 127)) : dMod (dT f p q) = .error 1506 := by
  apply er_of
  by_cases h1 : f = 96
  · subst h1
    by_cases h2 : 124 ≤ p ∧ p ≤ 127
    · have hq2 : ¬ (124 ≤ q ∧ q ≤ 127) := fun h3 => h ⟨rfl, h2.1, h2.2, h3.1, h3.2⟩
      have c := List.all_eq_true.1 (types_q h2) q.toNat (List.mem_range.2 (by omega))
      simp only [Bool.or_eq_true, Bool.and_eq_true, decide_eq_true_eq] at c
      rw [show ((q.toNat : Nat) : Int) = q by omega] at c
      rcases c with c | c
      · exact absurd c (by omega)
      · exact c
    · have c := List.all_eq_true.1 (types_p q) p.toNat (List.mem_range.2 (by omega))
      simp only [Bool.or_eq_true, Bool.and_eq_true, decide_eq_true_eq] at c
      rw [show ((p.toNat : Nat) : Int) = p by omega] at c
      rcases c with c | c
      · exact absurd c (by omega)
      · exact c
  · have c := List.all_eq_true.1 (types_f p q) f.toNat (List.mem_range.2 (by omega))
    simp only [Bool.or_eq_true, beq_iff_eq] at c
    rw [show ((f.toNat : Nat) : Int) = f by omega] at c
    rcases c with c | c
    · exact absurd c (by omega)
    · exact c
theorem types_ok {p q : Int} (hp : 124 ≤ p ∧ p ≤ 127) (hq : 124 ≤ q ∧ q ≤ 127) : dMod (dT 96 p q) = .ok { m0 with types := [⟨[p], [q]⟩] } := by
  obtain h | h | h | h : p = 124 ∨ p = 125 ∨ p = 126 ∨ p = 127 := by omega
  all_goals
    subst h
    obtain h | h | h | h : q = 124 ∨ q = 125 ∨ q = 126 ∨ q = 127 := by omega
    all_goals subst h; kernel_rfl
end Go.Proofs.YtkdoijfjceeblaaDoor.EDec
