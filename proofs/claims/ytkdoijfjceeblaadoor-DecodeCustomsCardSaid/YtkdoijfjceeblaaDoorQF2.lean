/-
  What the claim leans on, cut to what is used (wip/tools/prune15.py): words, printed functions, walks.
-/
import Derived.Test.YtkdoijfjceeblaaDoorQF
import Derived.Test.YtkdoijfjceeblaaDoorQW1
section
namespace Go.Proofs.YtkdoijfjceeblaaDoor.F
open Go.RowKit Go.Proofs.YtkdoijfjceeblaaDoorW.PrintWords Go.Proofs.YtkdoijfjceeblaaDoorW.PrintLast Go.Proofs.YtkdoijfjceeblaaDoorW.PrintMore
attribute [local go_sem] max2_int min2_int max_two min_two max_three min_three max_four min_four
set_option linter.unusedVariables false
set_option linter.unusedSimpArgs false
def pelorusref12_Leb.l0 : Nat → List Int → Int → Option (ByteArray)
 | 0, _, _ => none
 | k + 1, x3, x4 => if x4 ≥ 128 then (if x3.length < 140737488355328 then (pelorusref12_Leb.l0 k (x3 ++ [(IntKind.u64.wrap ((Int.tmod x4 128) + 128)) % 256]) (IntKind.u64.wrap (Int.tdiv x4 128))) else (none)) else (if x3.length < 140737488355328 then (some (strOfNums (x3 ++ [(x4) % 256]))) else (none))
def pelorusref12_Leb.f (k : Nat) (a0 : Int) : Option (ByteArray) := pelorusref12_Leb.l0 k ([] : List Int) (IntKind.u64.wrap (a0))
theorem pelorusref12_Leb.mono_l : ∀ k, (∀ y0 y1, LeO (pelorusref12_Leb.l0 k y0 y1) (pelorusref12_Leb.l0 (k + 1) y0 y1))
 | 0 => fun _ _ r h => by simp [pelorusref12_Leb.l0] at h
 | k + 1 => by
  have ih0 := pelorusref12_Leb.mono_l k
  ·intro y0 y1
   unfold pelorusref12_Leb.l0
   repeat' first
   | (with_reducible exact ih0 _ _)
   | (with_reducible exact LeO.refl _)
   | (with_reducible exact LeO.none _)
   | (with_reducible refine LeO.ite ?_ ?_)
   | (with_reducible refine LeO.bind ?_ (fun _ => ?_))
   | exact ih0 _ _
   | exact LeO.none _
   | refine LeO.ite ?_ ?_
   | refine LeO.bind ?_ (fun _ => ?_)
theorem pelorusref12_Leb.mono : ∀ a0 k, LeO (pelorusref12_Leb.f k a0) (pelorusref12_Leb.f (k + 1) a0) := by
 intro a0 k
 have ih0 := pelorusref12_Leb.mono_l k
 unfold pelorusref12_Leb.f
 repeat' first
   | (with_reducible exact ih0 _ _)
   | (with_reducible exact LeO.refl _)
   | (with_reducible exact LeO.none _)
   | (with_reducible refine LeO.ite ?_ ?_)
   | (with_reducible refine LeO.bind ?_ (fun _ => ?_))
   | exact ih0 _ _
   | exact LeO.none _
   | refine LeO.ite ?_ ?_
   | refine LeO.bind ?_ (fun _ => ?_)
set_option maxHeartbeats 8000000 in
set_option maxRecDepth 100000 in
theorem pelorusref12_Leb.calls (k : Nat) (a0 : Int) (r : ByteArray) (w : World) (h : pelorusref12_Leb.f k a0 = some r) :
  Calls Tryd.prog 17 #[.int .i64 a0] w fun e w' => e = .returned (.string r) ∧ Below w.heap.size w w' := by
 have HB := am (Below.refl w.heap.size w)
 have H : (pelorusref12_Leb.l0 k ([] : List Int) (IntKind.u64.wrap (a0))) = some r := h
 clear h
 have H' := am H
 clear H
 go_enter Tryd.func17, Tryd.ntmps17
 go_wp2
 go_loopg [3, 4] k (fun kq v3 v4 w' => ∃ (x3_1 : List Int) (x4_1 : Int), v4 = .int .u64 x4_1 ∧ Aside0 (pelorusref12_Leb.l0 kq x3_1 x4_1 = some r) ∧ Aside0 (kq ≤ k) ∧ Aside0 (Kd.R (Kd.int .u8) 5 w' w.heap.size (fun _ => True) v3 x3_1) ∧ Aside0 (Below w.heap.size w w'))
 case atStart => exact ⟨(([] : List Int)), (IntKind.u64.wrap (a0)), (by first | rfl | (simp; done) | (simp [*]; done)), H', ⟨Nat.le_refl _⟩, ⟨by first | exact Kd.R_nil _ _ _ _ _ | exact Kd.N_nil _ _ _ _ _ | exact Kd.V_nil _ _ _ _ _ | exact Kd.Q_nil _ _ _ _ _ | exact Kd.S_nil _ _ _ _ _⟩, ⟨by repeat (first | (with_reducible first | exact HB.out | apply below_alloc | apply pw_below_drewN | apply below_drew1) | exact HB.out)⟩⟩
 case round =>
  clear H'
  try clear c1
  obtain ⟨x3_1, x4_1, rfl, HA, HK1, HO_3, HB⟩ := hrel
  cases gk with
  | zero => exact absurd HA.out (by simp [pelorusref12_Leb.l0])
  | succ k1 =>
   have H := HA.out
   clear HA
   simp only [pelorusref12_Leb.l0] at H
   by_cases c2 : x4_1 ≥ 128
   ·rw [if_pos c2] at H
    have c2b0 : decide (128 ≤ x4_1) = true := decide_eq_true c2
    clear c2
    by_cases c3 : x3_1.length < 140737488355328
    ·rw [if_pos c3] at H
     have LMc3 := am c3
     clear c3
     obtain ⟨y117, hy117⟩ : ∃ y_ : List Int, y_ = (x3_1 ++ [(IntKind.u64.wrap ((Int.tmod x4_1 128) + 128)) % 256]) := ⟨_, rfl⟩
     replace H : (pelorusref12_Leb.l0 k1 y117 (IntKind.u64.wrap (Int.tdiv x4_1 128))) = some r := by first | (rw [hy117]; with_reducible exact H) | (have H2_ := (Option.bind_some _ _).symm.trans H; rw [hy117]; with_reducible exact H2_) | (have H2_ := (Option.bind_some _ _).symm.trans H; with_reducible exact H2_) | with_reducible exact H | (rw [hy117]; exact H) | exact H
     have Ny117 := am hy117
     clear hy117
     have H' := am H
     clear H
     go_wp2_with (first | ((with_reducible refine gate_builtin (b := .append) (xs := #[.tmp 9, .tmp 14]) rfl ?_); at_builtin; refine Kd.R_append (Kd.int .u8) (w0 := w) w.heap.size rfl (.tmp 9) (.tmp 14) 48 5 (.int .u8 0) 1 rfl Tryd.underlying48 info5 rfl (by decide) (by omega) u3 x3_1 ((IntKind.u64.wrap ((Int.tmod x4_1 128) + 128)) % 256) [.int .u8 ((IntKind.u64.wrap ((Int.tmod x4_1 128) + 128)) % 256)] (fun _ => True) (fun _ => False) rfl rfl ?aP (fun _ hk => hk.elim) ?aF ?aO ?aB ?aS ?aL ?_; (case aP => exact rfl); (case aB => exact (by repeat (first | (with_reducible first | exact HB.out | apply below_alloc | apply pw_below_drewN | apply below_drew1) | exact HB.out))); (case aF => exact (fun _ _ => trivial)); (case aO => exact (by (with_reducible repeat (first | apply Kd.R_alloc | apply Kd.R_drewN | apply Kd.R_drew)); exact HO_3.out)); (case aS => exact (below_size (by repeat (first | (with_reducible first | exact HB.out | apply below_alloc | apply pw_below_drewN | apply below_drew1) | exact HB.out)))); (case aL => have := LMc3.out; omega); intro v118 w4 ho hb hg hat; rw [← Ny117.out] at ho; have n0_ := am (hb); have n1_ := am (ho); clear HB; clear HO_3; have HB := n0_; have HO119 := n1_; clear n0_ n1_; clear ho hb hg hat))
     go_roundg k1
     case measure => have := HK1.out; omega
     case rel => exact ⟨(y117), (IntKind.u64.wrap (Int.tdiv x4_1 128)), (by first | rfl | (simp; done) | (simp [*]; done)), H', ⟨by have := HK1.out; omega⟩, ⟨by (with_reducible repeat (first | apply Kd.R_alloc | apply Kd.R_drewN | apply Kd.R_drew)); exact HO119.out⟩, ⟨by repeat (first | (with_reducible first | exact HB.out | apply below_alloc | apply pw_below_drewN | apply below_drew1) | exact HB.out)⟩⟩
    ·rw [if_neg c3] at H
     exact absurd H (by simp)
   ·rw [if_neg c2] at H
    have c2b0 : decide (128 ≤ x4_1) = false := decide_eq_false c2
    clear c2
    by_cases c5 : x3_1.length < 140737488355328
    ·rw [if_pos c5] at H
     have LMc5 := am c5
     clear c5
     obtain ⟨y120, hy120⟩ : ∃ y_ : List Int, y_ = (x3_1 ++ [(x4_1) % 256]) := ⟨_, rfl⟩
     replace H : (some (strOfNums y120)) = some r := by first | (rw [hy120]; with_reducible exact H) | (have H2_ := (Option.bind_some _ _).symm.trans H; rw [hy120]; with_reducible exact H2_) | (have H2_ := (Option.bind_some _ _).symm.trans H; with_reducible exact H2_) | with_reducible exact H | (rw [hy120]; exact H) | exact H
     have Ny120 := am hy120
     clear hy120
     obtain rfl := Option.some.inj H
     go_wp2_with (first | ((with_reducible refine gate_builtin (b := .append) (xs := #[.tmp 18, .tmp 21]) rfl ?_); at_builtin; refine Kd.R_append (Kd.int .u8) (w0 := w) w.heap.size rfl (.tmp 18) (.tmp 21) 48 5 (.int .u8 0) 1 rfl Tryd.underlying48 info5 rfl (by decide) (by omega) u3 x3_1 ((x4_1) % 256) [.int .u8 ((x4_1) % 256)] (fun _ => True) (fun _ => False) rfl rfl ?aP (fun _ hk => hk.elim) ?aF ?aO ?aB ?aS ?aL ?_; (case aP => exact rfl); (case aB => exact (by repeat (first | (with_reducible first | exact HB.out | apply below_alloc | apply pw_below_drewN | apply below_drew1) | exact HB.out))); (case aF => exact (fun _ _ => trivial)); (case aO => exact (by (with_reducible repeat (first | apply Kd.R_alloc | apply Kd.R_drewN | apply Kd.R_drew)); exact HO_3.out)); (case aS => exact (below_size (by repeat (first | (with_reducible first | exact HB.out | apply below_alloc | apply pw_below_drewN | apply below_drew1) | exact HB.out)))); (case aL => have := LMc5.out; omega); intro v121 w6 ho hb hg hat; rw [← Ny120.out] at ho; have n0_ := am (hb); have n1_ := am (ho); clear HB; clear HO_3; have HB := n0_; have HO122 := n1_; clear n0_ n1_; clear ho hb hg hat; have hcv7 := own_string (P := Tryd.prog) Tryd.underlying48 Tryd.underlying5 Tryd.underlying9 (Kd.own_of_R HO122.out)))
     go_ret
     exact ⟨by first | rfl | (simp [errW_none, errW_some] <;> rfl) | (simp [*, errW_none, errW_some] <;> rfl), by repeat (first | (with_reducible first | exact HB.out | apply below_alloc | apply pw_below_drewN | apply below_drew1) | exact HB.out)⟩
    ·rw [if_neg c5] at H
     exact absurd H (by simp)
def pelorusref12_tail.f (a0 : ByteArray) (a1 : Int) (a2 : Int) (a3 : Int) : Option (Int) := if a1 ≥ (a0.size : Int) then (some (-1)) else (if 0 ≤ a1 then (if a1 < (a0.size : Int) then (if (bt a0 a1) < a2 then (some (-1)) else (if (bt a0 a1) > a3 then (some (-1)) else (some (wrap64 (bt a0 a1))))) else (none)) else (none))
set_option maxHeartbeats 8000000 in
set_option maxRecDepth 100000 in
theorem pelorusref12_tail.calls (a0 : ByteArray) (a1 : Int) (a2 : Int) (a3 : Int) (r : Int) (w : World) (h : pelorusref12_tail.f a0 a1 a2 a3 = some r) :
  Calls Tryd.prog 55 #[.string a0, .int .i64 a1, .int .u8 a2, .int .u8 a3] w fun e w' => e = .returned (.int .i64 r) ∧ Drawn0 w w' := by
 have H : (if a1 ≥ (a0.size : Int) then (some (-1)) else (if 0 ≤ a1 then (if a1 < (a0.size : Int) then (if (bt a0 a1) < a2 then (some (-1)) else (if (bt a0 a1) > a3 then (some (-1)) else (some (wrap64 (bt a0 a1))))) else (none)) else (none))) = some r := h
 clear h
 by_cases c5 : a1 ≥ (a0.size : Int)
 ·rw [if_pos c5] at H
  have c5b0 : decide ((a0.size : Int) ≤ a1) = true := decide_eq_true c5
  clear c5
  obtain rfl := Option.some.inj H
  go_enter Tryd.func55, Tryd.ntmps55
  go_wp2
  go_ret
  exact ⟨by first | rfl | (simp; done) | (simp [*]; done), by repeat (first | exact Drawn0.refl _ | apply Drawn0.step)⟩
 ·rw [if_neg c5] at H
  have c5b0 : decide ((a0.size : Int) ≤ a1) = false := decide_eq_false c5
  clear c5
  by_cases c6 : 0 ≤ a1
  ·rw [if_pos c6] at H
   have c6b0 : decide (0 ≤ a1) = true := decide_eq_true c6
   clear c6
   by_cases c7 : a1 < (a0.size : Int)
   ·rw [if_pos c7] at H
    have c7b0 : decide (a1 < (a0.size : Int)) = true := decide_eq_true c7
    clear c7
    by_cases c9 : (bt a0 a1) < a2
    ·rw [if_pos c9] at H
     have c9b0 : decide ((bt a0 a1) < a2) = true := decide_eq_true c9
     clear c9
     obtain rfl := Option.some.inj H
     have p8 : 0 ≤ (a1 : Int) := of_decide_eq_true (by first | (with_reducible assumption) | assumption)
     have q8 : a1 < (a0.size : Int) := of_decide_eq_true (by first | (with_reducible assumption) | assumption)
     have hx8 := bt_at a0 a1
     replace p8 := eq_true p8
     replace q8 := eq_true q8
     go_enter Tryd.func55, Tryd.ntmps55
     go_wp2
     go_ret
     exact ⟨by first | rfl | (simp; done) | (simp [*]; done), by repeat (first | exact Drawn0.refl _ | apply Drawn0.step)⟩
    ·rw [if_neg c9] at H
     have c9b0 : decide ((bt a0 a1) < a2) = false := decide_eq_false c9
     clear c9
     by_cases c11 : (bt a0 a1) > a3
     ·rw [if_pos c11] at H
      have c11b0 : decide (a3 < (bt a0 a1)) = true := decide_eq_true c11
      clear c11
      obtain rfl := Option.some.inj H
      have p8 : 0 ≤ (a1 : Int) := of_decide_eq_true (by first | (with_reducible assumption) | assumption)
      have q8 : a1 < (a0.size : Int) := of_decide_eq_true (by first | (with_reducible assumption) | assumption)
      have hx8 := bt_at a0 a1
      replace p8 := eq_true p8
      replace q8 := eq_true q8
      have p10 : 0 ≤ (a1 : Int) := of_decide_eq_true (by first | (with_reducible assumption) | assumption)
      have q10 : a1 < (a0.size : Int) := of_decide_eq_true (by first | (with_reducible assumption) | assumption)
      have hx10 := bt_at a0 a1
      replace p10 := eq_true p10
      replace q10 := eq_true q10
      go_enter Tryd.func55, Tryd.ntmps55
      go_wp2
      go_ret
      exact ⟨by first | rfl | (simp; done) | (simp [*]; done), by repeat (first | exact Drawn0.refl _ | apply Drawn0.step)⟩
     ·rw [if_neg c11] at H
      have c11b0 : decide (a3 < (bt a0 a1)) = false := decide_eq_false c11
      clear c11
      obtain rfl := Option.some.inj H
      have p8 : 0 ≤ (a1 : Int) := of_decide_eq_true (by first | (with_reducible assumption) | assumption)
      have q8 : a1 < (a0.size : Int) := of_decide_eq_true (by first | (with_reducible assumption) | assumption)
      have hx8 := bt_at a0 a1
      replace p8 := eq_true p8
      replace q8 := eq_true q8
      have p10 : 0 ≤ (a1 : Int) := of_decide_eq_true (by first | (with_reducible assumption) | assumption)
      have q10 : a1 < (a0.size : Int) := of_decide_eq_true (by first | (with_reducible assumption) | assumption)
      have hx10 := bt_at a0 a1
      replace p10 := eq_true p10
      replace q10 := eq_true q10
      have p12 : 0 ≤ (a1 : Int) := of_decide_eq_true (by first | (with_reducible assumption) | assumption)
      have q12 : a1 < (a0.size : Int) := of_decide_eq_true (by first | (with_reducible assumption) | assumption)
      have hx12 := bt_at a0 a1
      replace p12 := eq_true p12
      replace q12 := eq_true q12
      go_enter Tryd.func55, Tryd.ntmps55
      go_wp2
      go_ret
      exact ⟨by first | rfl | (simp; done) | (simp [*]; done), by repeat (first | exact Drawn0.refl _ | apply Drawn0.step)⟩
   ·rw [if_neg c7] at H
    exact absurd H (by simp)
  ·rw [if_neg c6] at H
   exact absurd H (by simp)
mutual
def pelorusref12_Utf8.l0 : Nat → ByteArray → Int → Option (Bool)
 | 0, _, _ => none
 | k + 1, x0, x3 => if x3 < (x0.size : Int) then (if 0 ≤ x3 then (if (bt x0 x3) < 128 then (pelorusref12_Utf8.j4 k x0 x3 128 191 0) else (if (bt x0 x3) ≥ 194 then (pelorusref12_Utf8.j1 k x0 x3 (bt x0 x3) 128 191 (decide ((bt x0 x3) ≤ 223))) else (pelorusref12_Utf8.j1 k x0 x3 (bt x0 x3) 128 191 false))) else (none)) else (some true)
def pelorusref12_Utf8.j4 : Nat → ByteArray → Int → Int → Int → Int → Option (Bool)
 | 0, _, _, _, _, _ => none
 | k + 1, x0, x3, x5, x6, x7 => pelorusref12_Utf8.l1 k x0 x3 x5 x6 x7 1
def pelorusref12_Utf8.l1 : Nat → ByteArray → Int → Int → Int → Int → Int → Option (Bool)
 | 0, _, _, _, _, _, _ => none
 | k + 1, x0, x3, x5, x6, x7, x8 => if x8 ≤ x7 then ((pelorusref12_tail.f x0 (wrap64 (x3 + x8)) x5 x6).bind fun t123 => (if t123 < 0 then (some false) else (pelorusref12_Utf8.l1 k x0 x3 128 191 x7 (wrap64 (x8 + 1))))) else (pelorusref12_Utf8.l0 k x0 (wrap64 ((wrap64 (x3 + 1)) + x7)))
def pelorusref12_Utf8.j1 : Nat → ByteArray → Int → Int → Int → Int → Bool → Option (Bool)
 | 0, _, _, _, _, _, _ => none
 | k + 1, x0, x3, x4, x5, x6, x19 => if x19 = true then (pelorusref12_Utf8.j4 k x0 x3 x5 x6 1) else (if x4 ≥ 224 then (pelorusref12_Utf8.j2 k x0 x3 x4 x5 x6 (decide (x4 ≤ 239))) else (pelorusref12_Utf8.j2 k x0 x3 x4 x5 x6 false))
def pelorusref12_Utf8.j2 : Nat → ByteArray → Int → Int → Int → Int → Bool → Option (Bool)
 | 0, _, _, _, _, _, _ => none
 | k + 1, x0, x3, x4, x5, x6, x26 => if x26 = true then (if x4 = 224 then (if x4 = 237 then (pelorusref12_Utf8.j4 k x0 x3 160 159 2) else (pelorusref12_Utf8.j4 k x0 x3 160 x6 2)) else (if x4 = 237 then (pelorusref12_Utf8.j4 k x0 x3 x5 159 2) else (pelorusref12_Utf8.j4 k x0 x3 x5 x6 2))) else (if x4 ≥ 240 then (pelorusref12_Utf8.j3 k x0 x3 x4 x5 x6 (decide (x4 ≤ 244))) else (pelorusref12_Utf8.j3 k x0 x3 x4 x5 x6 false))
def pelorusref12_Utf8.j3 : Nat → ByteArray → Int → Int → Int → Int → Bool → Option (Bool)
 | 0, _, _, _, _, _, _ => none
 | k + 1, x0, x3, x4, x5, x6, x37 => if x37 = true then (if x4 = 240 then (if x4 = 244 then (pelorusref12_Utf8.j4 k x0 x3 144 143 3) else (pelorusref12_Utf8.j4 k x0 x3 144 x6 3)) else (if x4 = 244 then (pelorusref12_Utf8.j4 k x0 x3 x5 143 3) else (pelorusref12_Utf8.j4 k x0 x3 x5 x6 3))) else (some false)
end
def pelorusref12_Utf8.f (k : Nat) (a0 : ByteArray) : Option (Bool) := pelorusref12_Utf8.l0 k a0 0
theorem pelorusref12_Utf8.mono_l : ∀ k, (∀ y0 y1, LeO (pelorusref12_Utf8.l0 k y0 y1) (pelorusref12_Utf8.l0 (k + 1) y0 y1)) ∧ (∀ y0 y1 y2 y3 y4, LeO (pelorusref12_Utf8.j4 k y0 y1 y2 y3 y4) (pelorusref12_Utf8.j4 (k + 1) y0 y1 y2 y3 y4)) ∧ (∀ y0 y1 y2 y3 y4 y5, LeO (pelorusref12_Utf8.l1 k y0 y1 y2 y3 y4 y5) (pelorusref12_Utf8.l1 (k + 1) y0 y1 y2 y3 y4 y5)) ∧ (∀ y0 y1 y2 y3 y4 y5, LeO (pelorusref12_Utf8.j1 k y0 y1 y2 y3 y4 y5) (pelorusref12_Utf8.j1 (k + 1) y0 y1 y2 y3 y4 y5)) ∧ (∀ y0 y1 y2 y3 y4 y5, LeO (pelorusref12_Utf8.j2 k y0 y1 y2 y3 y4 y5) (pelorusref12_Utf8.j2 (k + 1) y0 y1 y2 y3 y4 y5)) ∧ (∀ y0 y1 y2 y3 y4 y5, LeO (pelorusref12_Utf8.j3 k y0 y1 y2 y3 y4 y5) (pelorusref12_Utf8.j3 (k + 1) y0 y1 y2 y3 y4 y5))
 | 0 => ⟨fun _ _ r h => by simp [pelorusref12_Utf8.l0] at h, fun _ _ _ _ _ r h => by simp [pelorusref12_Utf8.j4] at h, fun _ _ _ _ _ _ r h => by simp [pelorusref12_Utf8.l1] at h, fun _ _ _ _ _ _ r h => by simp [pelorusref12_Utf8.j1] at h, fun _ _ _ _ _ _ r h => by simp [pelorusref12_Utf8.j2] at h, fun _ _ _ _ _ _ r h => by simp [pelorusref12_Utf8.j3] at h⟩
 | k + 1 => by
  obtain ⟨ih0, ih1, ih2, ih3, ih4, ih5⟩ := pelorusref12_Utf8.mono_l k
  refine ⟨?_, ?_, ?_, ?_, ?_, ?_⟩
  ·intro y0 y1
   unfold pelorusref12_Utf8.l0
   repeat' first
   | (with_reducible exact ih0 _ _)
   | (with_reducible exact ih1 _ _ _ _ _)
   | (with_reducible exact ih2 _ _ _ _ _ _)
   | (with_reducible exact ih3 _ _ _ _ _ _)
   | (with_reducible exact ih4 _ _ _ _ _ _)
   | (with_reducible exact ih5 _ _ _ _ _ _)
   | (with_reducible exact LeO.refl _)
   | (with_reducible exact LeO.none _)
   | (with_reducible refine LeO.ite ?_ ?_)
   | (with_reducible refine LeO.bind ?_ (fun _ => ?_))
   | exact ih0 _ _
   | exact ih1 _ _ _ _ _
   | exact ih2 _ _ _ _ _ _
   | exact ih3 _ _ _ _ _ _
   | exact ih4 _ _ _ _ _ _
   | exact ih5 _ _ _ _ _ _
   | exact LeO.none _
   | refine LeO.ite ?_ ?_
   | refine LeO.bind ?_ (fun _ => ?_)
  ·intro y0 y1 y2 y3 y4
   unfold pelorusref12_Utf8.j4
   repeat' first
   | (with_reducible exact ih0 _ _)
   | (with_reducible exact ih1 _ _ _ _ _)
   | (with_reducible exact ih2 _ _ _ _ _ _)
   | (with_reducible exact ih3 _ _ _ _ _ _)
   | (with_reducible exact ih4 _ _ _ _ _ _)
   | (with_reducible exact ih5 _ _ _ _ _ _)
   | (with_reducible exact LeO.refl _)
   | (with_reducible exact LeO.none _)
   | (with_reducible refine LeO.ite ?_ ?_)
   | (with_reducible refine LeO.bind ?_ (fun _ => ?_))
   | exact ih0 _ _
   | exact ih1 _ _ _ _ _
   | exact ih2 _ _ _ _ _ _
   | exact ih3 _ _ _ _ _ _
   | exact ih4 _ _ _ _ _ _
   | exact ih5 _ _ _ _ _ _
   | exact LeO.none _
   | refine LeO.ite ?_ ?_
   | refine LeO.bind ?_ (fun _ => ?_)
  ·intro y0 y1 y2 y3 y4 y5
   unfold pelorusref12_Utf8.l1
   repeat' first
   | (with_reducible exact ih0 _ _)
   | (with_reducible exact ih1 _ _ _ _ _)
   | (with_reducible exact ih2 _ _ _ _ _ _)
   | (with_reducible exact ih3 _ _ _ _ _ _)
   | (with_reducible exact ih4 _ _ _ _ _ _)
   | (with_reducible exact ih5 _ _ _ _ _ _)
   | (with_reducible exact LeO.refl _)
   | (with_reducible exact LeO.none _)
   | (with_reducible refine LeO.ite ?_ ?_)
   | (with_reducible refine LeO.bind ?_ (fun _ => ?_))
   | exact ih0 _ _
   | exact ih1 _ _ _ _ _
   | exact ih2 _ _ _ _ _ _
   | exact ih3 _ _ _ _ _ _
   | exact ih4 _ _ _ _ _ _
   | exact ih5 _ _ _ _ _ _
   | exact LeO.none _
   | refine LeO.ite ?_ ?_
   | refine LeO.bind ?_ (fun _ => ?_)
  ·intro y0 y1 y2 y3 y4 y5
   unfold pelorusref12_Utf8.j1
   repeat' first
   | (with_reducible exact ih0 _ _)
   | (with_reducible exact ih1 _ _ _ _ _)
   | (with_reducible exact ih2 _ _ _ _ _ _)
   | (with_reducible exact ih3 _ _ _ _ _ _)
   | (with_reducible exact ih4 _ _ _ _ _ _)
   | (with_reducible exact ih5 _ _ _ _ _ _)
   | (with_reducible exact LeO.refl _)
   | (with_reducible exact LeO.none _)
   | (with_reducible refine LeO.ite ?_ ?_)
   | (with_reducible refine LeO.bind ?_ (fun _ => ?_))
   | exact ih0 _ _
   | exact ih1 _ _ _ _ _
   | exact ih2 _ _ _ _ _ _
   | exact ih3 _ _ _ _ _ _
   | exact ih4 _ _ _ _ _ _
   | exact ih5 _ _ _ _ _ _
   | exact LeO.none _
   | refine LeO.ite ?_ ?_
   | refine LeO.bind ?_ (fun _ => ?_)
  ·intro y0 y1 y2 y3 y4 y5
   unfold pelorusref12_Utf8.j2
   repeat' first
   | (with_reducible exact ih0 _ _)
   | (with_reducible exact ih1 _ _ _ _ _)
   | (with_reducible exact ih2 _ _ _ _ _ _)
   | (with_reducible exact ih3 _ _ _ _ _ _)
   | (with_reducible exact ih4 _ _ _ _ _ _)
   | (with_reducible exact ih5 _ _ _ _ _ _)
   | (with_reducible exact LeO.refl _)
   | (with_reducible exact LeO.none _)
   | (with_reducible refine LeO.ite ?_ ?_)
   | (with_reducible refine LeO.bind ?_ (fun _ => ?_))
   | exact ih0 _ _
   | exact ih1 _ _ _ _ _
   | exact ih2 _ _ _ _ _ _
   | exact ih3 _ _ _ _ _ _
   | exact ih4 _ _ _ _ _ _
   | exact ih5 _ _ _ _ _ _
   | exact LeO.none _
   | refine LeO.ite ?_ ?_
   | refine LeO.bind ?_ (fun _ => ?_)
  ·intro y0 y1 y2 y3 y4 y5
   unfold pelorusref12_Utf8.j3
   repeat' first
   | (with_reducible exact ih0 _ _)
   | (with_reducible exact ih1 _ _ _ _ _)
   | (with_reducible exact ih2 _ _ _ _ _ _)
   | (with_reducible exact ih3 _ _ _ _ _ _)
   | (with_reducible exact ih4 _ _ _ _ _ _)
   | (with_reducible exact ih5 _ _ _ _ _ _)
   | (with_reducible exact LeO.refl _)
   | (with_reducible exact LeO.none _)
   | (with_reducible refine LeO.ite ?_ ?_)
   | (with_reducible refine LeO.bind ?_ (fun _ => ?_))
   | exact ih0 _ _
   | exact ih1 _ _ _ _ _
   | exact ih2 _ _ _ _ _ _
   | exact ih3 _ _ _ _ _ _
   | exact ih4 _ _ _ _ _ _
   | exact ih5 _ _ _ _ _ _
   | exact LeO.none _
   | refine LeO.ite ?_ ?_
   | refine LeO.bind ?_ (fun _ => ?_)
theorem pelorusref12_Utf8.mono : ∀ a0 k, LeO (pelorusref12_Utf8.f k a0) (pelorusref12_Utf8.f (k + 1) a0) := by
 intro a0 k
 obtain ⟨ih0, ih1, ih2, ih3, ih4, ih5⟩ := pelorusref12_Utf8.mono_l k
 unfold pelorusref12_Utf8.f
 repeat' first
   | (with_reducible exact ih0 _ _)
   | (with_reducible exact ih1 _ _ _ _ _)
   | (with_reducible exact ih2 _ _ _ _ _ _)
   | (with_reducible exact ih3 _ _ _ _ _ _)
   | (with_reducible exact ih4 _ _ _ _ _ _)
   | (with_reducible exact ih5 _ _ _ _ _ _)
   | (with_reducible exact LeO.refl _)
   | (with_reducible exact LeO.none _)
   | (with_reducible refine LeO.ite ?_ ?_)
   | (with_reducible refine LeO.bind ?_ (fun _ => ?_))
   | exact ih0 _ _
   | exact ih1 _ _ _ _ _
   | exact ih2 _ _ _ _ _ _
   | exact ih3 _ _ _ _ _ _
   | exact ih4 _ _ _ _ _ _
   | exact ih5 _ _ _ _ _ _
   | exact LeO.none _
   | refine LeO.ite ?_ ?_
   | refine LeO.bind ?_ (fun _ => ?_)
set_option maxHeartbeats 8000000 in
set_option maxRecDepth 100000 in
theorem pelorusref12_Utf8.calls (k : Nat) (a0 : ByteArray) (r : Bool) (w : World) (h : pelorusref12_Utf8.f k a0 = some r) :
  Calls Tryd.prog 27 #[.string a0] w fun e w' => e = .returned (.bool r) ∧ Drawn0 w w' := by
 have H : (pelorusref12_Utf8.l0 k a0 0) = some r := h
 clear h
 have H' := am H
 clear H
 go_enter Tryd.func27, Tryd.ntmps27
 go_wp2
 go_loopg [3] k (fun kq v3 w' => ∃ (x3_1 : Int), v3 = .int .i64 x3_1 ∧ Aside0 (pelorusref12_Utf8.l0 kq a0 x3_1 = some r) ∧ Aside0 (kq ≤ k) ∧ Drawn0 w w')
 case atStart => exact ⟨(0), (by first | rfl | (simp; done) | (simp [*]; done)), H', ⟨Nat.le_refl _⟩, by repeat (first | exact Drawn0.refl _ | apply Drawn0.step)⟩
 case round =>
  clear H'
  obtain ⟨x3_1, rfl, HA, HK1, ⟨m1, rfl⟩⟩ := hrel
  cases gk with
  | zero => exact absurd HA.out (by simp [pelorusref12_Utf8.l0])
  | succ k1 =>
   have H := HA.out
   clear HA
   simp only [pelorusref12_Utf8.l0] at H
   by_cases c2 : x3_1 < (a0.size : Int)
   ·rw [if_pos c2] at H
    have c2b0 : decide (x3_1 < (a0.size : Int)) = true := decide_eq_true c2
    clear c2
    by_cases c3 : 0 ≤ x3_1
    ·rw [if_pos c3] at H
     have c3b0 : decide (0 ≤ x3_1) = true := decide_eq_true c3
     clear c3
     have HC5 := am H
     clear H
     have p4 : 0 ≤ (x3_1 : Int) := of_decide_eq_true (by first | (with_reducible assumption) | assumption)
     have q4 : x3_1 < (a0.size : Int) := of_decide_eq_true (by first | (with_reducible assumption) | assumption)
     have hx4 := bt_at a0 x3_1
     replace p4 := eq_true p4
     replace q4 := eq_true q4
     go_upto_block 2 with (fail)
     go_cut [5, 6, 7] (fun v5 v6 v7 wc => ∃ (kq : Nat) (x5_4 : Int) (x6_4 : Int) (x7_4 : Int), v5 = .int .u8 x5_4 ∧ v6 = .int .u8 x6_4 ∧ v7 = .int .i64 x7_4 ∧ Aside0 (pelorusref12_Utf8.j4 kq a0 x3_1 x5_4 x6_4 x7_4 = some r) ∧ Aside0 (kq ≤ k1) ∧ Drawn0 w wc)
     case first =>
      have H := HC5.out
      clear HC5
      by_cases c6 : (bt a0 x3_1) < 128
      ·rw [if_pos c6] at H
       have c6b0 : decide ((bt a0 x3_1) < 128) = true := decide_eq_true c6
       clear c6
       (first | rw [c6b0] | (simp only [i64_w, i32_w]; rw [c6b0]) | skip)
       have H' := am H
       clear H
       go_wp2
       go_meet
       case rel => exact ⟨_, (128), (191), (0), (by first | rfl | (simp; done) | (simp [*]; done)), (by first | rfl | (simp; done) | (simp [*]; done)), (by first | rfl | (simp; done) | (simp [*]; done)), H', ⟨by have := HK1.out; first | omega | exact Nat.le_refl _⟩, by repeat (first | exact Drawn0.refl _ | apply Drawn0.step)⟩
      ·rw [if_neg c6] at H
       have c6b0 : decide ((bt a0 x3_1) < 128) = false := decide_eq_false c6
       clear c6
       (first | rw [c6b0] | (simp only [i64_w, i32_w]; rw [c6b0]) | skip)
       have HC7 := am H
       clear H
       go_upto_region 7 with (fail)
       go_cut [19] (fun v19 wc => ∃ (kq : Nat) (x19_6 : Bool), v19 = .bool x19_6 ∧ Aside0 (pelorusref12_Utf8.j1 kq a0 x3_1 (bt a0 x3_1) 128 191 x19_6 = some r) ∧ Aside0 (kq ≤ k1) ∧ Drawn0 w wc)
       case first =>
        have H := HC7.out
        clear HC7
        by_cases c8 : (bt a0 x3_1) ≥ 194
        ·rw [if_pos c8] at H
         have c8b0 : decide (194 ≤ (bt a0 x3_1)) = true := decide_eq_true c8
         clear c8
         (first | rw [c8b0] | (simp only [i64_w, i32_w]; rw [c8b0]) | skip)
         have H' := am H
         clear H
         go_wp2
         go_meet
         case rel => exact ⟨_, (decide ((bt a0 x3_1) ≤ 223)), (by first | rfl | (simp; done) | (simp [*]; done)), H', ⟨by have := HK1.out; first | omega | exact Nat.le_refl _⟩, by repeat (first | exact Drawn0.refl _ | apply Drawn0.step)⟩
        ·rw [if_neg c8] at H
         have c8b0 : decide (194 ≤ (bt a0 x3_1)) = false := decide_eq_false c8
         clear c8
         (first | rw [c8b0] | (simp only [i64_w, i32_w]; rw [c8b0]) | skip)
         have H' := am H
         clear H
         go_wp2
         go_meet
         case rel => exact ⟨_, (false), (by first | rfl | (simp; done) | (simp [*]; done)), H', ⟨by have := HK1.out; first | omega | exact Nat.le_refl _⟩, by repeat (first | exact Drawn0.refl _ | apply Drawn0.step)⟩
       case rest =>
        clear HC7
        try clear c2
        try clear c2b0
        try clear p2
        try clear c3
        try clear c3b0
        try clear p4
        try clear q4
        try clear hx4
        try clear c6
        try clear c6b0
        try clear c8
        try clear c8b0
        try clear p4
        try clear q4
        obtain ⟨kq, x19_6, rfl, HA, HJ6, ⟨mc6, rfl⟩⟩ := hcut
        cases kq with
        | zero => exact absurd HA.out (by simp [pelorusref12_Utf8.j1])
        | succ kj6 =>
         have H := HA.out
         clear HA
         simp only [pelorusref12_Utf8.j1] at H
         by_cases c9 : x19_6 = true
         ·subst c9
          have H1 : (pelorusref12_Utf8.j4 kj6 a0 x3_1 128 191 1) = some r := by rw [if_pos rfl] at H; exact H
          clear H
          have H := H1
          clear H1
          have H' := am H
          clear H
          go_wp2
          go_meet
          case rel => exact ⟨_, (128), (191), (1), (by first | rfl | (simp; done) | (simp [*]; done)), (by first | rfl | (simp; done) | (simp [*]; done)), (by first | rfl | (simp; done) | (simp [*]; done)), H', ⟨by have := HK1.out; have := HJ6.out; first | omega | exact Nat.le_refl _⟩, by repeat (first | exact Drawn0.refl _ | apply Drawn0.step)⟩
         ·replace c9 := Bool.eq_false_iff.mpr c9
          subst c9
          have H1 : (if (bt a0 x3_1) ≥ 224 then (pelorusref12_Utf8.j2 kj6 a0 x3_1 (bt a0 x3_1) 128 191 (decide ((bt a0 x3_1) ≤ 239))) else (pelorusref12_Utf8.j2 kj6 a0 x3_1 (bt a0 x3_1) 128 191 false)) = some r := by rw [if_neg (show ¬ (false = true) by decide)] at H; exact H
          clear H
          have H := H1
          clear H1
          have HC10 := am H
          clear H
          go_upto_region 9 with (fail)
          go_cut [26] (fun v26 wc => ∃ (kq : Nat) (x26_9 : Bool), v26 = .bool x26_9 ∧ Aside0 (pelorusref12_Utf8.j2 kq a0 x3_1 (bt a0 x3_1) 128 191 x26_9 = some r) ∧ Aside0 (kq ≤ kj6) ∧ Drawn0 w wc)
          case first =>
           have H := HC10.out
           clear HC10
           by_cases c11 : (bt a0 x3_1) ≥ 224
           ·rw [if_pos c11] at H
            have c11b0 : decide (224 ≤ (bt a0 x3_1)) = true := decide_eq_true c11
            clear c11
            (first | rw [c11b0] | (simp only [i64_w, i32_w]; rw [c11b0]) | skip)
            have H' := am H
            clear H
            go_wp2
            go_meet
            case rel => exact ⟨_, (decide ((bt a0 x3_1) ≤ 239)), (by first | rfl | (simp; done) | (simp [*]; done)), H', ⟨by have := HK1.out; have := HJ6.out; first | omega | exact Nat.le_refl _⟩, by repeat (first | exact Drawn0.refl _ | apply Drawn0.step)⟩
           ·rw [if_neg c11] at H
            have c11b0 : decide (224 ≤ (bt a0 x3_1)) = false := decide_eq_false c11
            clear c11
            (first | rw [c11b0] | (simp only [i64_w, i32_w]; rw [c11b0]) | skip)
            have H' := am H
            clear H
            go_wp2
            go_meet
            case rel => exact ⟨_, (false), (by first | rfl | (simp; done) | (simp [*]; done)), H', ⟨by have := HK1.out; have := HJ6.out; first | omega | exact Nat.le_refl _⟩, by repeat (first | exact Drawn0.refl _ | apply Drawn0.step)⟩
          case rest =>
           clear HC10
           try clear c1
           try clear c2
           try clear c2b0
           try clear p2
           try clear c3
           try clear c3b0
           try clear p4
           try clear q4
           try clear hx4
           try clear c6
           try clear c6b0
           try clear c8
           try clear c8b0
           try clear c9
           try clear c11
           try clear c11b0
           try clear p2
           try clear p4
           try clear q4
           obtain ⟨kq, x26_9, rfl, HA, HJ9, ⟨mc9, rfl⟩⟩ := hcut
           cases kq with
           | zero => exact absurd HA.out (by simp [pelorusref12_Utf8.j2])
           | succ kj9 =>
            have H := HA.out
            clear HA
            simp only [pelorusref12_Utf8.j2] at H
            by_cases c12 : x26_9 = true
            ·subst c12
             have H1 : (if (bt a0 x3_1) = 224 then (if (bt a0 x3_1) = 237 then (pelorusref12_Utf8.j4 kj9 a0 x3_1 160 159 2) else (pelorusref12_Utf8.j4 kj9 a0 x3_1 160 191 2)) else (if (bt a0 x3_1) = 237 then (pelorusref12_Utf8.j4 kj9 a0 x3_1 128 159 2) else (pelorusref12_Utf8.j4 kj9 a0 x3_1 128 191 2))) = some r := by rw [if_pos rfl] at H; exact H
             clear H
             have H := H1
             clear H1
             by_cases c13 : (bt a0 x3_1) = 224
             ·rw [if_pos c13] at H
              have c13b0 : ((bt a0 x3_1) == 224) = true := beq_iff_eq.mpr c13
              have c13b1 : ((bt a0 x3_1) != 224) = false := bne_eq_false_iff_eq.mpr c13
              clear c13
              by_cases c14 : (bt a0 x3_1) = 237
              ·rw [if_pos c14] at H
               have c14b0 : ((bt a0 x3_1) == 237) = true := beq_iff_eq.mpr c14
               have c14b1 : ((bt a0 x3_1) != 237) = false := bne_eq_false_iff_eq.mpr c14
               clear c14
               have H' := am H
               clear H
               go_wp2
               go_meet
               case rel => exact ⟨_, (160), (159), (2), (by first | rfl | (simp; done) | (simp [*]; done)), (by first | rfl | (simp; done) | (simp [*]; done)), (by first | rfl | (simp; done) | (simp [*]; done)), H', ⟨by have := HK1.out; have := HJ6.out; have := HJ9.out; first | omega | exact Nat.le_refl _⟩, by repeat (first | exact Drawn0.refl _ | apply Drawn0.step)⟩
              ·rw [if_neg c14] at H
               have c14b0 : ((bt a0 x3_1) == 237) = false := beq_eq_false_iff_ne.mpr c14
               have c14b1 : ((bt a0 x3_1) != 237) = true := bne_iff_ne.mpr c14
               have H' := am H
               clear H
               go_wp2
               go_meet
               case rel => exact ⟨_, (160), (191), (2), (by first | rfl | (simp; done) | (simp [*]; done)), (by first | rfl | (simp; done) | (simp [*]; done)), (by first | rfl | (simp; done) | (simp [*]; done)), H', ⟨by have := HK1.out; have := HJ6.out; have := HJ9.out; first | omega | exact Nat.le_refl _⟩, by repeat (first | exact Drawn0.refl _ | apply Drawn0.step)⟩
             ·rw [if_neg c13] at H
              have c13b0 : ((bt a0 x3_1) == 224) = false := beq_eq_false_iff_ne.mpr c13
              have c13b1 : ((bt a0 x3_1) != 224) = true := bne_iff_ne.mpr c13
              by_cases c15 : (bt a0 x3_1) = 237
              ·rw [if_pos c15] at H
               have c15b0 : ((bt a0 x3_1) == 237) = true := beq_iff_eq.mpr c15
               have c15b1 : ((bt a0 x3_1) != 237) = false := bne_eq_false_iff_eq.mpr c15
               clear c15
               have H' := am H
               clear H
               go_wp2
               go_meet
               case rel => exact ⟨_, (128), (159), (2), (by first | rfl | (simp; done) | (simp [*]; done)), (by first | rfl | (simp; done) | (simp [*]; done)), (by first | rfl | (simp; done) | (simp [*]; done)), H', ⟨by have := HK1.out; have := HJ6.out; have := HJ9.out; first | omega | exact Nat.le_refl _⟩, by repeat (first | exact Drawn0.refl _ | apply Drawn0.step)⟩
              ·rw [if_neg c15] at H
               have c15b0 : ((bt a0 x3_1) == 237) = false := beq_eq_false_iff_ne.mpr c15
               have c15b1 : ((bt a0 x3_1) != 237) = true := bne_iff_ne.mpr c15
               have H' := am H
               clear H
               go_wp2
               go_meet
               case rel => exact ⟨_, (128), (191), (2), (by first | rfl | (simp; done) | (simp [*]; done)), (by first | rfl | (simp; done) | (simp [*]; done)), (by first | rfl | (simp; done) | (simp [*]; done)), H', ⟨by have := HK1.out; have := HJ6.out; have := HJ9.out; first | omega | exact Nat.le_refl _⟩, by repeat (first | exact Drawn0.refl _ | apply Drawn0.step)⟩
            ·replace c12 := Bool.eq_false_iff.mpr c12
             subst c12
             have H1 : (if (bt a0 x3_1) ≥ 240 then (pelorusref12_Utf8.j3 kj9 a0 x3_1 (bt a0 x3_1) 128 191 (decide ((bt a0 x3_1) ≤ 244))) else (pelorusref12_Utf8.j3 kj9 a0 x3_1 (bt a0 x3_1) 128 191 false)) = some r := by rw [if_neg (show ¬ (false = true) by decide)] at H; exact H
             clear H
             have H := H1
             clear H1
             have HC16 := am H
             clear H
             go_upto_region 15 with (fail)
             go_cut [37] (fun v37 wc => ∃ (kq : Nat) (x37_15 : Bool), v37 = .bool x37_15 ∧ Aside0 (pelorusref12_Utf8.j3 kq a0 x3_1 (bt a0 x3_1) 128 191 x37_15 = some r) ∧ Aside0 (kq ≤ kj9) ∧ Drawn0 w wc)
             case first =>
              have H := HC16.out
              clear HC16
              by_cases c17 : (bt a0 x3_1) ≥ 240
              ·rw [if_pos c17] at H
               have c17b0 : decide (240 ≤ (bt a0 x3_1)) = true := decide_eq_true c17
               clear c17
               (first | rw [c17b0] | (simp only [i64_w, i32_w]; rw [c17b0]) | skip)
               have H' := am H
               clear H
               go_wp2
               go_meet
               case rel => exact ⟨_, (decide ((bt a0 x3_1) ≤ 244)), (by first | rfl | (simp; done) | (simp [*]; done)), H', ⟨by have := HK1.out; have := HJ6.out; have := HJ9.out; first | omega | exact Nat.le_refl _⟩, by repeat (first | exact Drawn0.refl _ | apply Drawn0.step)⟩
              ·rw [if_neg c17] at H
               have c17b0 : decide (240 ≤ (bt a0 x3_1)) = false := decide_eq_false c17
               clear c17
               (first | rw [c17b0] | (simp only [i64_w, i32_w]; rw [c17b0]) | skip)
               have H' := am H
               clear H
               go_wp2
               go_meet
               case rel => exact ⟨_, (false), (by first | rfl | (simp; done) | (simp [*]; done)), H', ⟨by have := HK1.out; have := HJ6.out; have := HJ9.out; first | omega | exact Nat.le_refl _⟩, by repeat (first | exact Drawn0.refl _ | apply Drawn0.step)⟩
             case rest =>
              clear HC16
              try clear c1
              try clear c2
              try clear c2b0
              try clear p2
              try clear c3
              try clear c3b0
              try clear p4
              try clear q4
              try clear hx4
              try clear c6
              try clear c6b0
              try clear c8
              try clear c8b0
              try clear c9
              try clear c11
              try clear c11b0
              try clear c12
              try clear c13
              try clear c13b0
              try clear c13b1
              try clear c14
              try clear c14b0
              try clear c14b1
              try clear c15
              try clear c15b0
              try clear c15b1
              try clear c17
              try clear c17b0
              try clear p2
              try clear p4
              try clear q4
              obtain ⟨kq, x37_15, rfl, HA, HJ15, ⟨mc15, rfl⟩⟩ := hcut
              cases kq with
              | zero => exact absurd HA.out (by simp [pelorusref12_Utf8.j3])
              | succ kj15 =>
               have H := HA.out
               clear HA
               simp only [pelorusref12_Utf8.j3] at H
               by_cases c18 : x37_15 = true
               ·subst c18
                have H1 : (if (bt a0 x3_1) = 240 then (if (bt a0 x3_1) = 244 then (pelorusref12_Utf8.j4 kj15 a0 x3_1 144 143 3) else (pelorusref12_Utf8.j4 kj15 a0 x3_1 144 191 3)) else (if (bt a0 x3_1) = 244 then (pelorusref12_Utf8.j4 kj15 a0 x3_1 128 143 3) else (pelorusref12_Utf8.j4 kj15 a0 x3_1 128 191 3))) = some r := by rw [if_pos rfl] at H; exact H
                clear H
                have H := H1
                clear H1
                by_cases c19 : (bt a0 x3_1) = 240
                ·rw [if_pos c19] at H
                 have c19b0 : ((bt a0 x3_1) == 240) = true := beq_iff_eq.mpr c19
                 have c19b1 : ((bt a0 x3_1) != 240) = false := bne_eq_false_iff_eq.mpr c19
                 clear c19
                 by_cases c20 : (bt a0 x3_1) = 244
                 ·rw [if_pos c20] at H
                  have c20b0 : ((bt a0 x3_1) == 244) = true := beq_iff_eq.mpr c20
                  have c20b1 : ((bt a0 x3_1) != 244) = false := bne_eq_false_iff_eq.mpr c20
                  clear c20
                  have H' := am H
                  clear H
                  go_wp2
                  go_meet
                  case rel => exact ⟨_, (144), (143), (3), (by first | rfl | (simp; done) | (simp [*]; done)), (by first | rfl | (simp; done) | (simp [*]; done)), (by first | rfl | (simp; done) | (simp [*]; done)), H', ⟨by have := HK1.out; have := HJ6.out; have := HJ9.out; have := HJ15.out; first | omega | exact Nat.le_refl _⟩, by repeat (first | exact Drawn0.refl _ | apply Drawn0.step)⟩
                 ·rw [if_neg c20] at H
                  have c20b0 : ((bt a0 x3_1) == 244) = false := beq_eq_false_iff_ne.mpr c20
                  have c20b1 : ((bt a0 x3_1) != 244) = true := bne_iff_ne.mpr c20
                  have H' := am H
                  clear H
                  go_wp2
                  go_meet
                  case rel => exact ⟨_, (144), (191), (3), (by first | rfl | (simp; done) | (simp [*]; done)), (by first | rfl | (simp; done) | (simp [*]; done)), (by first | rfl | (simp; done) | (simp [*]; done)), H', ⟨by have := HK1.out; have := HJ6.out; have := HJ9.out; have := HJ15.out; first | omega | exact Nat.le_refl _⟩, by repeat (first | exact Drawn0.refl _ | apply Drawn0.step)⟩
                ·rw [if_neg c19] at H
                 have c19b0 : ((bt a0 x3_1) == 240) = false := beq_eq_false_iff_ne.mpr c19
                 have c19b1 : ((bt a0 x3_1) != 240) = true := bne_iff_ne.mpr c19
                 by_cases c21 : (bt a0 x3_1) = 244
                 ·rw [if_pos c21] at H
                  have c21b0 : ((bt a0 x3_1) == 244) = true := beq_iff_eq.mpr c21
                  have c21b1 : ((bt a0 x3_1) != 244) = false := bne_eq_false_iff_eq.mpr c21
                  clear c21
                  have H' := am H
                  clear H
                  go_wp2
                  go_meet
                  case rel => exact ⟨_, (128), (143), (3), (by first | rfl | (simp; done) | (simp [*]; done)), (by first | rfl | (simp; done) | (simp [*]; done)), (by first | rfl | (simp; done) | (simp [*]; done)), H', ⟨by have := HK1.out; have := HJ6.out; have := HJ9.out; have := HJ15.out; first | omega | exact Nat.le_refl _⟩, by repeat (first | exact Drawn0.refl _ | apply Drawn0.step)⟩
                 ·rw [if_neg c21] at H
                  have c21b0 : ((bt a0 x3_1) == 244) = false := beq_eq_false_iff_ne.mpr c21
                  have c21b1 : ((bt a0 x3_1) != 244) = true := bne_iff_ne.mpr c21
                  have H' := am H
                  clear H
                  go_wp2
                  go_meet
                  case rel => exact ⟨_, (128), (191), (3), (by first | rfl | (simp; done) | (simp [*]; done)), (by first | rfl | (simp; done) | (simp [*]; done)), (by first | rfl | (simp; done) | (simp [*]; done)), H', ⟨by have := HK1.out; have := HJ6.out; have := HJ9.out; have := HJ15.out; first | omega | exact Nat.le_refl _⟩, by repeat (first | exact Drawn0.refl _ | apply Drawn0.step)⟩
               ·replace c18 := Bool.eq_false_iff.mpr c18
                subst c18
                have H1 : (some false) = some r := by rw [if_neg (show ¬ (false = true) by decide)] at H; exact H
                clear H
                have H := H1
                clear H1
                obtain rfl := Option.some.inj H
                go_wp2
                go_ret
                exact ⟨by first | rfl | (simp; done) | (simp [*]; done), by repeat (first | exact Drawn0.refl _ | apply Drawn0.step)⟩
     case rest =>
      clear HC5
      try clear c1
      try clear c2
      try clear c2b0
      try clear p2
      try clear c3
      try clear c3b0
      try clear p4
      try clear q4
      try clear hx4
      try clear c6
      try clear c6b0
      try clear c8
      try clear c8b0
      try clear c9
      try clear c11
      try clear c11b0
      try clear c12
      try clear c13
      try clear c13b0
      try clear c13b1
      try clear c14
      try clear c14b0
      try clear c14b1
      try clear c15
      try clear c15b0
      try clear c15b1
      try clear c17
      try clear c17b0
      try clear c18
      try clear c19
      try clear c19b0
      try clear c19b1
      try clear c20
      try clear c20b0
      try clear c20b1
      try clear c21
      try clear c21b0
      try clear c21b1
      try clear p2
      try clear p4
      try clear q4
      obtain ⟨kq, x5_4, x6_4, x7_4, rfl, rfl, rfl, HA, HJ4, ⟨mc4, rfl⟩⟩ := hcut
      cases kq with
      | zero => exact absurd HA.out (by simp [pelorusref12_Utf8.j4])
      | succ kj4 =>
       have H := HA.out
       clear HA
       simp only [pelorusref12_Utf8.j4] at H
       have H' := am H
       clear H
       go_wp2
       go_loopg [5, 6, 8] kj4 (fun kq v5 v6 v8 w' => ∃ (x5_3 : Int) (x6_3 : Int) (x8_3 : Int), v5 = .int .u8 x5_3 ∧ v6 = .int .u8 x6_3 ∧ v8 = .int .i64 x8_3 ∧ Aside0 (pelorusref12_Utf8.l1 kq a0 x3_1 x5_3 x6_3 x7_4 x8_3 = some r) ∧ Aside0 (kq ≤ kj4) ∧ Drawn0 w w')
       case atStart => exact ⟨(x5_4), (x6_4), (1), (by first | rfl | (simp; done) | (simp [*]; done)), (by first | rfl | (simp; done) | (simp [*]; done)), (by first | rfl | (simp; done) | (simp [*]; done)), H', ⟨Nat.le_refl _⟩, by repeat (first | exact Drawn0.refl _ | apply Drawn0.step)⟩
       case round =>
        clear H'
        try clear c1
        try clear c2
        try clear c2b0
        try clear p2
        try clear c3
        try clear c3b0
        try clear c4
        try clear p4
        try clear q4
        try clear hx4
        try clear c6
        try clear c6b0
        try clear c8
        try clear c8b0
        try clear c9
        try clear c11
        try clear c11b0
        try clear c12
        try clear c13
        try clear c13b0
        try clear c13b1
        try clear c14
        try clear c14b0
        try clear c14b1
        try clear c15
        try clear c15b0
        try clear c15b1
        try clear c17
        try clear c17b0
        try clear c18
        try clear c19
        try clear c19b0
        try clear c19b1
        try clear c20
        try clear c20b0
        try clear c20b1
        try clear c21
        try clear c21b0
        try clear c21b1
        try clear p2
        try clear p4
        try clear q4
        obtain ⟨x5_3, x6_3, x8_3, rfl, rfl, rfl, HA, HK3, ⟨m3, rfl⟩⟩ := hrel
        cases gk with
        | zero => exact absurd HA.out (by simp [pelorusref12_Utf8.l1])
        | succ k3 =>
         have H := HA.out
         clear HA
         simp only [pelorusref12_Utf8.l1] at H
         by_cases c22 : x8_3 ≤ x7_4
         ·rw [if_pos c22] at H
          have c22b0 : decide (x8_3 ≤ x7_4) = true := decide_eq_true c22
          clear c22
          replace H := Option.bind_eq_some_iff.mp H
          obtain ⟨t123, A230, H⟩ := H
          replace H : (if t123 < 0 then (some false) else (pelorusref12_Utf8.l1 k3 a0 x3_1 128 191 x7_4 (wrap64 (x8_3 + 1)))) = some r := H
          have A23 := am A230
          clear A230
          by_cases c24 : t123 < 0
          ·rw [if_pos c24] at H
           have c24b0 : decide (t123 < 0) = true := decide_eq_true c24
           clear c24
           obtain rfl := Option.some.inj H
           go_wp2_with (first | ((with_reducible refine gate_callee (f := 55) rfl ?_); refine goesL_ (some 59) rfl rfl Tryd.func55 (by kernel_rfl) rfl #[.string a0, .int .i64 (wrap64 (x3_1 + x8_3)), .int .u8 x5_3, .int .u8 x6_3] rfl (by (try simp only [List.map_toArray, List.map_cons, List.map_nil]); first | done | rfl | (simp only [List.length_drop, List.length_take]; rfl)) ?_; (with_reducible refine (pelorusref12_tail.calls a0 (wrap64 (x3_1 + x8_3)) x5_3 x6_3 t123 _ A23.out).mono ?_); rintro e w' ⟨rfl, ⟨nd, rfl⟩⟩; refine ⟨_, rfl, ?_⟩))
           go_ret
           exact ⟨by first | rfl | (simp; done) | (simp [*]; done), by repeat (first | exact Drawn0.refl _ | apply Drawn0.step)⟩
          ·rw [if_neg c24] at H
           have c24b0 : decide (t123 < 0) = false := decide_eq_false c24
           clear c24
           have H' := am H
           clear H
           go_wp2_with (first | ((with_reducible refine gate_callee (f := 55) rfl ?_); refine goesL_ (some 59) rfl rfl Tryd.func55 (by kernel_rfl) rfl #[.string a0, .int .i64 (wrap64 (x3_1 + x8_3)), .int .u8 x5_3, .int .u8 x6_3] rfl (by (try simp only [List.map_toArray, List.map_cons, List.map_nil]); first | done | rfl | (simp only [List.length_drop, List.length_take]; rfl)) ?_; (with_reducible refine (pelorusref12_tail.calls a0 (wrap64 (x3_1 + x8_3)) x5_3 x6_3 t123 _ A23.out).mono ?_); rintro e w' ⟨rfl, ⟨nd, rfl⟩⟩; refine ⟨_, rfl, ?_⟩))
           go_roundg k3
           case measure => have := HK1.out; have := HJ4.out; have := HK3.out; omega
           case rel => exact ⟨(128), (191), (wrap64 (x8_3 + 1)), (by first | rfl | (simp; done) | (simp [*]; done)), (by first | rfl | (simp; done) | (simp [*]; done)), (by first | rfl | (simp; done) | (simp [*]; done)), H', ⟨by have := HK1.out; have := HJ4.out; have := HK3.out; omega⟩, by repeat (first | exact Drawn0.refl _ | apply Drawn0.step)⟩
         ·rw [if_neg c22] at H
          have c22b0 : decide (x8_3 ≤ x7_4) = false := decide_eq_false c22
          clear c22
          have H' := am H
          clear H
          go_wp2
          go_roundg k3
          case measure => have := HK1.out; have := HJ4.out; have := HK3.out; omega
          case rel => exact ⟨(wrap64 ((wrap64 (x3_1 + 1)) + x7_4)), (by first | rfl | (simp; done) | (simp [*]; done)), H', ⟨by have := HK1.out; have := HJ4.out; have := HK3.out; omega⟩, by repeat (first | exact Drawn0.refl _ | apply Drawn0.step)⟩
    ·rw [if_neg c3] at H
     exact absurd H (by simp)
   ·rw [if_neg c2] at H
    have c2b0 : decide (x3_1 < (a0.size : Int)) = false := decide_eq_false c2
    clear c2
    obtain rfl := Option.some.inj H
    go_wp2
    go_ret
    exact ⟨by first | rfl | (simp; done) | (simp [*]; done), by repeat (first | exact Drawn0.refl _ | apply Drawn0.step)⟩
end Go.Proofs.YtkdoijfjceeblaaDoor.F
end
section
namespace Go.Proofs.YtkdoijfjceeblaaDoor.F
open Go.RowKit Go.Proofs.YtkdoijfjceeblaaDoorW.PrintWords Go.Proofs.YtkdoijfjceeblaaDoorW.PrintLast Go.Proofs.YtkdoijfjceeblaaDoorW.PrintMore
attribute [local go_sem] max2_int min2_int max_two min_two max_three min_three max_four min_four
set_option linter.unusedVariables false
set_option linter.unusedSimpArgs false
def pelorusref12_NameMay.f (k : Nat) (a0 : ByteArray) : Option (Bool) := if (a0.size : Int) ≤ 64 then ((pelorusref12_Utf8.f k a0).bind fun t124 => (some t124)) else (some false)
theorem pelorusref12_NameMay.mono : ∀ a0 k, LeO (pelorusref12_NameMay.f k a0) (pelorusref12_NameMay.f (k + 1) a0) := by
 intro a0 k
 unfold pelorusref12_NameMay.f
 repeat' first
   | (with_reducible exact pelorusref12_Utf8.mono _ _)
   | (with_reducible exact LeO.refl _)
   | (with_reducible exact LeO.none _)
   | (with_reducible refine LeO.ite ?_ ?_)
   | (with_reducible refine LeO.bind ?_ (fun _ => ?_))
   | exact pelorusref12_Utf8.mono _ _
   | exact LeO.none _
   | refine LeO.ite ?_ ?_
   | refine LeO.bind ?_ (fun _ => ?_)
set_option maxHeartbeats 8000000 in
set_option maxRecDepth 100000 in
theorem pelorusref12_NameMay.calls (k : Nat) (a0 : ByteArray) (r : Bool) (w : World) (h : pelorusref12_NameMay.f k a0 = some r) :
  Calls Tryd.prog 15 #[.string a0] w fun e w' => e = .returned (.bool r) ∧ Drawn0 w w' := by
 have H : (if (a0.size : Int) ≤ 64 then ((pelorusref12_Utf8.f k a0).bind fun t124 => (some t124)) else (some false)) = some r := h
 clear h
 by_cases c2 : (a0.size : Int) ≤ 64
 ·rw [if_pos c2] at H
  have c2b0 : decide ((a0.size : Int) ≤ 64) = true := decide_eq_true c2
  have c2b1 : decide (a0.size ≤ 64) = true := decide_eq_true (by omega)
  clear c2
  replace H := Option.bind_eq_some_iff.mp H
  obtain ⟨t124, A30, H⟩ := H
  replace H : (some t124) = some r := H
  have A3 := am A30
  clear A30
  obtain rfl := Option.some.inj H
  go_enter Tryd.func15, Tryd.ntmps15
  go_wp2_with (first | (go_at_call 27; (with_reducible refine (pelorusref12_Utf8.calls k a0 t124 _ A3.out).mono ?_); rintro e w' ⟨rfl, ⟨nd, rfl⟩⟩))
  go_ret
  exact ⟨by first | rfl | (simp; done) | (simp [*]; done), by repeat (first | exact Drawn0.refl _ | apply Drawn0.step)⟩
 ·rw [if_neg c2] at H
  have c2b0 : decide ((a0.size : Int) ≤ 64) = false := decide_eq_false c2
  have c2b1 : decide (a0.size ≤ 64) = false := decide_eq_false (by omega)
  clear c2
  obtain rfl := Option.some.inj H
  go_enter Tryd.func15, Tryd.ntmps15
  go_wp2
  go_ret
  exact ⟨by first | rfl | (simp; done) | (simp [*]; done), by repeat (first | exact Drawn0.refl _ | apply Drawn0.step)⟩
def peloruslaw0_Num.f (a0 : Int) : Option (Int) := some a0
set_option maxHeartbeats 8000000 in
set_option maxRecDepth 100000 in
theorem peloruslaw0_Num.calls (a0 : Int) (r : Int) (w : World) (h : peloruslaw0_Num.f a0 = some r) :
  Calls Tryd.prog 14 #[.int .i64 a0] w fun e w' => e = .returned (.int .i64 r) ∧ Drawn0 w w' := by
 have H : (some a0) = some r := h
 clear h
 obtain rfl := Option.some.inj H
 go_enter Tryd.func14, Tryd.ntmps14
 go_wp2
 go_ret
 exact ⟨by first | rfl | (simp; done) | (simp [*]; done), by repeat (first | exact Drawn0.refl _ | apply Drawn0.step)⟩
end Go.Proofs.YtkdoijfjceeblaaDoor.F
end
section
namespace Go.Proofs.YtkdoijfjceeblaaDoor.F
open Go.RowKit Go.Proofs.YtkdoijfjceeblaaDoorW.PrintWords Go.Proofs.YtkdoijfjceeblaaDoorW.PrintLast Go.Proofs.YtkdoijfjceeblaaDoorW.PrintMore
attribute [local go_sem] max2_int min2_int max_two min_two max_three min_three max_four min_four
set_option linter.unusedVariables false
set_option linter.unusedSimpArgs false
def ftype_Value.f (a0 : Int) : Option (Bool) := if a0 = 64 then (some false) else ((instr_Type.f a0).bind fun t108 => (some t108))
set_option maxHeartbeats 8000000 in
set_option maxRecDepth 100000 in
theorem ftype_Value.calls (a0 : Int) (r : Bool) (w : World) (h : ftype_Value.f a0 = some r) :
  Calls Tryd.prog 68 #[.int .i64 a0] w fun e w' => e = .returned (.bool r) ∧ Drawn0 w w' := by
 have H : (if a0 = 64 then (some false) else ((instr_Type.f a0).bind fun t108 => (some t108))) = some r := h
 clear h
 by_cases c2 : a0 = 64
 ·rw [if_pos c2] at H
  have c2b0 : (a0 == 64) = true := beq_iff_eq.mpr c2
  have c2b1 : (a0 != 64) = false := bne_eq_false_iff_eq.mpr c2
  clear c2
  obtain rfl := Option.some.inj H
  go_enter Tryd.func68, Tryd.ntmps68
  go_wp2
  go_ret
  exact ⟨by first | rfl | (simp; done) | (simp [*]; done), by repeat (first | exact Drawn0.refl _ | apply Drawn0.step)⟩
 ·rw [if_neg c2] at H
  have c2b0 : (a0 == 64) = false := beq_eq_false_iff_ne.mpr c2
  have c2b1 : (a0 != 64) = true := bne_iff_ne.mpr c2
  replace H := Option.bind_eq_some_iff.mp H
  obtain ⟨t108, A30, H⟩ := H
  replace H : (some t108) = some r := H
  have A3 := am A30
  clear A30
  obtain rfl := Option.some.inj H
  go_enter Tryd.func68, Tryd.ntmps68
  go_wp2_with (first | (go_at_call 71; (with_reducible refine (instr_Type.calls a0 t108 _ A3.out).mono ?_); rintro e w' ⟨rfl, ⟨nd, rfl⟩⟩))
  go_ret
  exact ⟨by first | rfl | (simp; done) | (simp [*]; done), by repeat (first | exact Drawn0.refl _ | apply Drawn0.step)⟩
def peloruslaw0_SameInts.l0 : Nat → List Int → List Int → Int → Option (Bool)
 | 0, _, _, _ => none
 | k + 1, x0, x1, x5 => if x5 < (x0.length : Int) then (if 0 ≤ x5 then (if x5 < (x1.length : Int) then (if (rd x0 x5) = (rd x1 x5) then (peloruslaw0_SameInts.l0 k x0 x1 (wrap64 (x5 + 1))) else (some false)) else (none)) else (none)) else (some true)
def peloruslaw0_SameInts.f (k : Nat) (l0 : List Int) (l1 : List Int) : Option (Bool) := if (l0.length : Int) = (l1.length : Int) then (peloruslaw0_SameInts.l0 k l0 l1 0) else (some false)
theorem peloruslaw0_SameInts.mono_l : ∀ k, (∀ y0 y1 y2, LeO (peloruslaw0_SameInts.l0 k y0 y1 y2) (peloruslaw0_SameInts.l0 (k + 1) y0 y1 y2))
 | 0 => fun _ _ _ r h => by simp [peloruslaw0_SameInts.l0] at h
 | k + 1 => by
  have ih0 := peloruslaw0_SameInts.mono_l k
  ·intro y0 y1 y2
   unfold peloruslaw0_SameInts.l0
   repeat' first
   | (with_reducible exact ih0 _ _ _)
   | (with_reducible exact LeO.refl _)
   | (with_reducible exact LeO.none _)
   | (with_reducible refine LeO.ite ?_ ?_)
   | (with_reducible refine LeO.bind ?_ (fun _ => ?_))
   | exact ih0 _ _ _
   | exact LeO.none _
   | refine LeO.ite ?_ ?_
   | refine LeO.bind ?_ (fun _ => ?_)
theorem peloruslaw0_SameInts.mono : ∀ a0 a1 k, LeO (peloruslaw0_SameInts.f k a0 a1) (peloruslaw0_SameInts.f (k + 1) a0 a1) := by
 intro a0 a1 k
 have ih0 := peloruslaw0_SameInts.mono_l k
 unfold peloruslaw0_SameInts.f
 repeat' first
   | (with_reducible exact ih0 _ _ _)
   | (with_reducible exact LeO.refl _)
   | (with_reducible exact LeO.none _)
   | (with_reducible refine LeO.ite ?_ ?_)
   | (with_reducible refine LeO.bind ?_ (fun _ => ?_))
   | exact ih0 _ _ _
   | exact LeO.none _
   | refine LeO.ite ?_ ?_
   | refine LeO.bind ?_ (fun _ => ?_)
set_option maxHeartbeats 8000000 in
set_option maxRecDepth 100000 in
theorem peloruslaw0_SameInts.calls (k : Nat) (A0 : Option Addr) (c0 : Nat) (l0 : List Int) (A1 : Option Addr) (c1 : Nat) (l1 : List Int) (r : Bool) (w : World) (hr0 : Kd.C (Kd.int .i64) w A0 l0.length l0) (hc0 : l0.length ≤ c0) (hr1 : Kd.C (Kd.int .i64) w A1 l1.length l1) (hc1 : l1.length ≤ c1) (h : peloruslaw0_SameInts.f k l0 l1 = some r) :
  Calls Tryd.prog 30 #[.slice A0 l0.length c0, .slice A1 l1.length c1] w fun e w' => e = .returned (.bool r) ∧ Drawn0 w w' := by
 have HR0 := am hr0
 have HC0 := am hc0
 clear hr0 hc0
 have HR1 := am hr1
 have HC1 := am hc1
 clear hr1 hc1
 have H : (if (l0.length : Int) = (l1.length : Int) then (peloruslaw0_SameInts.l0 k l0 l1 0) else (some false)) = some r := h
 clear h
 by_cases c3 : (l0.length : Int) = (l1.length : Int)
 ·rw [if_pos c3] at H
  have c3b0 : ((l0.length : Int) == (l1.length : Int)) = true := beq_iff_eq.mpr c3
  have c3b1 : ((l0.length : Int) != (l1.length : Int)) = false := bne_eq_false_iff_eq.mpr c3
  have c3b2 : (l0.length == l1.length) = true := by first | simpa using c3 | (simp at c3 ⊢; omega)
  clear c3
  have H' := am H
  clear H
  go_enter Tryd.func30, Tryd.ntmps30
  go_wp2
  repeat (go_quiet (fail); try go_wp2)
  go_loopg [5] k (fun kq v5 w' => ∃ (x5_1 : Int), v5 = .int .i64 x5_1 ∧ Aside0 (peloruslaw0_SameInts.l0 kq l0 l1 x5_1 = some r) ∧ Aside0 (kq ≤ k) ∧ Drawn0 w w')
  case atStart => exact ⟨(0), (by first | rfl | (simp; done) | (simp [*]; done)), H', ⟨Nat.le_refl _⟩, by repeat (first | exact Drawn0.refl _ | apply Drawn0.step)⟩
  case round =>
   clear H'
   try clear c1
   try clear p2
   try clear c3
   try clear c3b0
   try clear c3b1
   try clear c3b2
   obtain ⟨x5_1, rfl, HA, HK1, ⟨m1, rfl⟩⟩ := hrel
   cases gk with
   | zero => exact absurd HA.out (by simp [peloruslaw0_SameInts.l0])
   | succ k1 =>
    have H := HA.out
    clear HA
    simp only [peloruslaw0_SameInts.l0] at H
    by_cases c4 : x5_1 < (l0.length : Int)
    ·rw [if_pos c4] at H
     have c4b0 : decide (x5_1 < (l0.length : Int)) = true := decide_eq_true c4
     clear c4
     by_cases c5 : 0 ≤ x5_1
     ·rw [if_pos c5] at H
      have c5b0 : decide (0 ≤ x5_1) = true := decide_eq_true c5
      clear c5
      by_cases c6 : x5_1 < (l1.length : Int)
      ·rw [if_pos c6] at H
       have c6b0 : decide (x5_1 < (l1.length : Int)) = true := decide_eq_true c6
       clear c6
       by_cases c7 : (rd l0 x5_1) = (rd l1 x5_1)
       ·rw [if_pos c7] at H
        have c7b0 : ((rd l0 x5_1) == (rd l1 x5_1)) = true := beq_iff_eq.mpr c7
        have c7b1 : ((rd l0 x5_1) != (rd l1 x5_1)) = false := bne_eq_false_iff_eq.mpr c7
        clear c7
        have H' := am H
        clear H
        have p109 : 0 ≤ (x5_1 : Int) := of_decide_eq_true (by first | (with_reducible assumption) | assumption)
        have q109 : x5_1 < (l0.length : Int) := of_decide_eq_true (by first | (with_reducible assumption) | assumption)
        obtain ⟨ad109, e109, hx109_0⟩ := Kd.at_int HR0.out x5_1 p109 q109
        cases e109
        replace p109 := eq_true p109
        replace q109 := eq_true q109
        have p110 : 0 ≤ (x5_1 : Int) := of_decide_eq_true (by first | (with_reducible assumption) | assumption)
        have q110 : x5_1 < (l1.length : Int) := of_decide_eq_true (by first | (with_reducible assumption) | assumption)
        obtain ⟨ad110, e110, hx110_0⟩ := Kd.at_int HR1.out x5_1 p110 q110
        cases e110
        replace p110 := eq_true p110
        replace q110 := eq_true q110
        go_wp2
        repeat (go_quiet (fail); try go_wp2)
        go_roundg k1
        case measure => have := HK1.out; omega
        case rel => exact ⟨(wrap64 (x5_1 + 1)), (by first | rfl | (simp; done) | (simp [*]; done)), H', ⟨by have := HK1.out; omega⟩, by repeat (first | exact Drawn0.refl _ | apply Drawn0.step)⟩
       ·rw [if_neg c7] at H
        have c7b0 : ((rd l0 x5_1) == (rd l1 x5_1)) = false := beq_eq_false_iff_ne.mpr c7
        have c7b1 : ((rd l0 x5_1) != (rd l1 x5_1)) = true := bne_iff_ne.mpr c7
        obtain rfl := Option.some.inj H
        have p109 : 0 ≤ (x5_1 : Int) := of_decide_eq_true (by first | (with_reducible assumption) | assumption)
        have q109 : x5_1 < (l0.length : Int) := of_decide_eq_true (by first | (with_reducible assumption) | assumption)
        obtain ⟨ad109, e109, hx109_0⟩ := Kd.at_int HR0.out x5_1 p109 q109
        cases e109
        replace p109 := eq_true p109
        replace q109 := eq_true q109
        have p110 : 0 ≤ (x5_1 : Int) := of_decide_eq_true (by first | (with_reducible assumption) | assumption)
        have q110 : x5_1 < (l1.length : Int) := of_decide_eq_true (by first | (with_reducible assumption) | assumption)
        obtain ⟨ad110, e110, hx110_0⟩ := Kd.at_int HR1.out x5_1 p110 q110
        cases e110
        replace p110 := eq_true p110
        replace q110 := eq_true q110
        go_wp2
        repeat (go_quiet (fail); try go_wp2)
        go_ret
        exact ⟨by first | rfl | (simp; done) | (simp [*]; done), by repeat (first | exact Drawn0.refl _ | apply Drawn0.step)⟩
      ·rw [if_neg c6] at H
       exact absurd H (by simp)
     ·rw [if_neg c5] at H
      exact absurd H (by simp)
    ·rw [if_neg c4] at H
     have c4b0 : decide (x5_1 < (l0.length : Int)) = false := decide_eq_false c4
     clear c4
     obtain rfl := Option.some.inj H
     go_wp2
     repeat (go_quiet (fail); try go_wp2)
     go_ret
     exact ⟨by first | rfl | (simp; done) | (simp [*]; done), by repeat (first | exact Drawn0.refl _ | apply Drawn0.step)⟩
 ·rw [if_neg c3] at H
  have c3b0 : ((l0.length : Int) == (l1.length : Int)) = false := beq_eq_false_iff_ne.mpr c3
  have c3b1 : ((l0.length : Int) != (l1.length : Int)) = true := bne_iff_ne.mpr c3
  have c3b2 : (l0.length == l1.length) = false := by first | simpa using c3 | (simp at c3 ⊢; omega)
  obtain rfl := Option.some.inj H
  go_enter Tryd.func30, Tryd.ntmps30
  go_wp2
  repeat (go_quiet (fail); try go_wp2)
  go_ret
  exact ⟨by first | rfl | (simp; done) | (simp [*]; done), by repeat (first | exact Drawn0.refl _ | apply Drawn0.step)⟩
def peloruslaw0_SameType.f (k : Nat) (l0_0 : List Int) (l0_1 : List Int) (l1_0 : List Int) (l1_1 : List Int) : Option (Bool) := (peloruslaw0_SameInts.f k l0_0 l1_0).bind fun t113 => (if t113 = true then ((peloruslaw0_SameInts.f k l0_1 l1_1).bind fun t114 => (some t114)) else (some false))
theorem peloruslaw0_SameType.mono : ∀ a0 a1 a2 a3 k, LeO (peloruslaw0_SameType.f k a0 a1 a2 a3) (peloruslaw0_SameType.f (k + 1) a0 a1 a2 a3) := by
 intro a0 a1 a2 a3 k
 unfold peloruslaw0_SameType.f
 repeat' first
   | (with_reducible exact peloruslaw0_SameInts.mono _ _ _)
   | (with_reducible exact LeO.refl _)
   | (with_reducible exact LeO.none _)
   | (with_reducible refine LeO.ite ?_ ?_)
   | (with_reducible refine LeO.bind ?_ (fun _ => ?_))
   | exact peloruslaw0_SameInts.mono _ _ _
   | exact LeO.none _
   | refine LeO.ite ?_ ?_
   | refine LeO.bind ?_ (fun _ => ?_)
set_option maxHeartbeats 8000000 in
set_option maxRecDepth 100000 in
theorem peloruslaw0_SameType.calls (k : Nat) (A0_0 : Option Addr) (c0_0 : Nat) (l0_0 : List Int) (A0_1 : Option Addr) (c0_1 : Nat) (l0_1 : List Int) (A1_0 : Option Addr) (c1_0 : Nat) (l1_0 : List Int) (A1_1 : Option Addr) (c1_1 : Nat) (l1_1 : List Int) (r : Bool) (w : World) (hr0_0 : Kd.C (Kd.int .i64) w A0_0 l0_0.length l0_0) (hc0_0 : l0_0.length ≤ c0_0) (hr0_1 : Kd.C (Kd.int .i64) w A0_1 l0_1.length l0_1) (hc0_1 : l0_1.length ≤ c0_1) (hr1_0 : Kd.C (Kd.int .i64) w A1_0 l1_0.length l1_0) (hc1_0 : l1_0.length ≤ c1_0) (hr1_1 : Kd.C (Kd.int .i64) w A1_1 l1_1.length l1_1) (hc1_1 : l1_1.length ≤ c1_1) (h : peloruslaw0_SameType.f k l0_0 l0_1 l1_0 l1_1 = some r) :
  Calls Tryd.prog 21 #[.agg #[.slice A0_0 l0_0.length c0_0, .slice A0_1 l0_1.length c0_1], .agg #[.slice A1_0 l1_0.length c1_0, .slice A1_1 l1_1.length c1_1]] w fun e w' => e = .returned (.bool r) ∧ Below w.heap.size w w' := by
 have hu51 := Tryd.underlying51
 have HR0_0 := am hr0_0
 have HC0_0 := am hc0_0
 clear hr0_0 hc0_0
 have HR0_1 := am hr0_1
 have HC0_1 := am hc0_1
 clear hr0_1 hc0_1
 have HR1_0 := am hr1_0
 have HC1_0 := am hc1_0
 clear hr1_0 hc1_0
 have HR1_1 := am hr1_1
 have HC1_1 := am hc1_1
 clear hr1_1 hc1_1
 have HB := am (Below.refl w.heap.size w)
 have H : ((peloruslaw0_SameInts.f k l0_0 l1_0).bind fun t113 => (if t113 = true then ((peloruslaw0_SameInts.f k l0_1 l1_1).bind fun t114 => (some t114)) else (some false))) = some r := h
 clear h
 replace H := Option.bind_eq_some_iff.mp H
 obtain ⟨t113, A30, H⟩ := H
 replace H : (if t113 = true then ((peloruslaw0_SameInts.f k l0_1 l1_1).bind fun t114 => (some t114)) else (some false)) = some r := H
 have A3 := am A30
 clear A30
 by_cases c4 : t113 = true
 ·subst c4
  have H1 : ((peloruslaw0_SameInts.f k l0_1 l1_1).bind fun t114 => (some t114)) = some r := by rw [if_pos rfl] at H; exact H
  clear H
  have H := H1
  clear H1
  replace H := Option.bind_eq_some_iff.mp H
  obtain ⟨t114, A50, H⟩ := H
  replace H : (some t114) = some r := H
  have A5 := am A50
  clear A50
  obtain rfl := Option.some.inj H
  go_enter Tryd.func21, Tryd.ntmps21
  go_wp2_with (first | ((with_reducible refine gate_dst (N := 2) rfl ?_); refine box_event ?hg (N := 2) ?hd (cs := #[.slice A0_0 l0_0.length c0_0, .slice A0_1 l0_1.length c0_1]) (t := 51) ?hr ?_; (case hd => rfl); (case hg => rfl); (case hr => first | (go_simp; done) | (go_simp; rfl)); intro gb111 hg w6 hbox hb; have n0_ := am (below_step (by repeat (first | (with_reducible first | exact HB.out | apply below_alloc | apply pw_below_drewN | apply below_drew1) | exact HB.out)) hb); have n1_ := am (hbox); have n2_ := am ((by rw [hg]; exact (below_size (by repeat (first | (with_reducible first | exact HB.out | apply below_alloc | apply pw_below_drewN | apply below_drew1) | exact HB.out))) : w.heap.size ≤ gb111)); have n3_ := am ((by rw [hg]; exact (below_size (by repeat (first | (with_reducible first | exact HB.out | apply below_alloc | apply pw_below_drewN | apply below_drew1) | exact HB.out))) : w.heap.size ≤ gb111)); clear HB; have HB := n0_; have BK111 := n1_; have GW111 := n2_; have GE111 := n3_; clear n0_ n1_ n2_ n3_; clear hb hbox hg) | ((with_reducible refine gate_dst (N := 3) rfl ?_); refine box_event ?hg (N := 3) ?hd (cs := #[.slice A1_0 l1_0.length c1_0, .slice A1_1 l1_1.length c1_1]) (t := 51) ?hr ?_; (case hd => rfl); (case hg => rfl); (case hr => first | (go_simp; done) | (go_simp; rfl)); intro gb112 hg w7 hbox hb; have n0_ := am (blk_below (g := gb111) (o := .cells #[.slice A0_0 l0_0.length c0_0, .slice A0_1 l0_1.length c0_1] 51 (0, 0)) (by (with_reducible repeat (first | refine blk_drewN ?_ _ | refine blk_drew ?_ | refine blk_alloc ?_ _)); exact BK111.out) hb); have n1_ := am (below_step (by repeat (first | (with_reducible first | exact HB.out | apply below_alloc | apply pw_below_drewN | apply below_drew1 | refine below_set ?_ GE111.out) | exact HB.out)) hb); have n2_ := am (hbox); have n3_ := am ((by rw [hg]; exact (below_size (by repeat (first | (with_reducible first | exact HB.out | apply below_alloc | apply pw_below_drewN | apply below_drew1 | refine below_set ?_ GE111.out) | exact HB.out))) : w.heap.size ≤ gb112)); have n4_ := am ((by rw [hg]; exact (below_size (by repeat (first | (with_reducible first | exact HB.out | apply below_alloc | apply pw_below_drewN | apply below_drew1 | refine below_set ?_ GE111.out) | exact HB.out))) : w.heap.size ≤ gb112)); have n5_ := am ((by rw [hg]; exact Nat.ne_of_lt (blk_lt (g := gb111) (o := .cells #[.slice A0_0 l0_0.length c0_0, .slice A0_1 l0_1.length c0_1] 51 (0, 0)) (by (with_reducible repeat (first | refine blk_drewN ?_ _ | refine blk_drew ?_ | refine blk_alloc ?_ _)); exact BK111.out)) : gb111 ≠ gb112)); have n6_ := am ((by rw [hg]; exact Nat.ne_of_gt (blk_lt (g := gb111) (o := .cells #[.slice A0_0 l0_0.length c0_0, .slice A0_1 l0_1.length c0_1] 51 (0, 0)) (by (with_reducible repeat (first | refine blk_drewN ?_ _ | refine blk_drew ?_ | refine blk_alloc ?_ _)); exact BK111.out)) : gb112 ≠ gb111)); clear BK111; clear HB; have BK111 := n0_; have HB := n1_; have BK112 := n2_; have GW112 := n3_; have GE112 := n4_; have NB111_112 := n5_; have NB112_111 := n6_; clear n0_ n1_ n2_ n3_ n4_ n5_ n6_; clear hb hbox hg; have hnb8 := NB111_112.out; have hnc8 := NB112_111.out; have hcz9_0 : w7.cell? ⟨gb111, 0, none⟩ = some (.slice A0_0 l0_0.length c0_0) := (blk_cell BK111.out 0).trans rfl; have hcz9_1 : w7.cell? ⟨gb111, 1, none⟩ = some (.slice A0_1 l0_1.length c0_1) := (blk_cell BK111.out 1).trans rfl; have hfz9_0 := blk_frozen BK111.out 0; have hfz9_1 := blk_frozen BK111.out 1; have hcz10_0 : w7.cell? ⟨gb112, 0, none⟩ = some (.slice A1_0 l1_0.length c1_0) := (blk_cell BK112.out 0).trans rfl; have hcz10_1 : w7.cell? ⟨gb112, 1, none⟩ = some (.slice A1_1 l1_1.length c1_1) := (blk_cell BK112.out 1).trans rfl; have hfz10_0 := blk_frozen BK112.out 0; have hfz10_1 := blk_frozen BK112.out 1) | ((with_reducible refine gate_callee (f := 30) rfl ?_); refine goesL_ (some 9) rfl rfl Tryd.func30 (by kernel_rfl) rfl #[.slice A0_0 l0_0.length c0_0, .slice A1_0 l1_0.length c1_0] rfl (by (try simp only [List.map_toArray, List.map_cons, List.map_nil]); first | done | rfl | (simp only [List.length_drop, List.length_take]; rfl)) ?_; (with_reducible refine (peloruslaw0_SameInts.calls k _ _ l0_0 _ _ l1_0 true _ ?side1 ?side2 ?side3 ?side4 A3.out).mono ?_); (case side1 => repeat (first | exact (Kd.C_below HR0_0.out HB.out) | (with_reducible refine Kd.C_alloc ?_ _) | (with_reducible refine Kd.C_drewN ?_ _) | (with_reducible refine Kd.C_drew ?_))); (case side2 => exact HC0_0.out); (case side3 => repeat (first | exact (Kd.C_below HR1_0.out HB.out) | (with_reducible refine Kd.C_alloc ?_ _) | (with_reducible refine Kd.C_drewN ?_ _) | (with_reducible refine Kd.C_drew ?_))); (case side4 => exact HC1_0.out); rintro e w' ⟨rfl, ⟨nd, rfl⟩⟩; refine ⟨_, rfl, ?_⟩) | (go_at_call 30; (with_reducible refine (peloruslaw0_SameInts.calls k _ _ l0_1 _ _ l1_1 t114 _ ?side1 ?side2 ?side3 ?side4 A5.out).mono ?_); (case side1 => repeat (first | exact (Kd.C_below HR0_1.out (by repeat (first | (with_reducible first | exact HB.out | apply below_alloc | apply pw_below_drewN | apply below_drew1 | refine below_set ?_ GE111.out | refine below_set ?_ GE112.out) | exact HB.out))) | (with_reducible refine Kd.C_alloc ?_ _) | (with_reducible refine Kd.C_drewN ?_ _) | (with_reducible refine Kd.C_drew ?_))); (case side2 => exact HC0_1.out); (case side3 => repeat (first | exact (Kd.C_below HR1_1.out (by repeat (first | (with_reducible first | exact HB.out | apply below_alloc | apply pw_below_drewN | apply below_drew1 | refine below_set ?_ GE111.out | refine below_set ?_ GE112.out) | exact HB.out))) | (with_reducible refine Kd.C_alloc ?_ _) | (with_reducible refine Kd.C_drewN ?_ _) | (with_reducible refine Kd.C_drew ?_))); (case side4 => exact HC1_1.out); rintro e w' ⟨rfl, ⟨nd, rfl⟩⟩))
  go_ret
  exact ⟨by first | rfl | (simp [errW_none, errW_some] <;> rfl) | (simp [*, errW_none, errW_some] <;> rfl), by repeat (first | (with_reducible first | exact HB.out | apply below_alloc | apply pw_below_drewN | apply below_drew1 | refine below_set ?_ GE111.out | refine below_set ?_ GE112.out) | exact HB.out)⟩
 ·replace c4 := Bool.eq_false_iff.mpr c4
  subst c4
  have H1 : (some false) = some r := by rw [if_neg (show ¬ (false = true) by decide)] at H; exact H
  clear H
  have H := H1
  clear H1
  obtain rfl := Option.some.inj H
  go_enter Tryd.func21, Tryd.ntmps21
  go_wp2_with (first | ((with_reducible refine gate_dst (N := 2) rfl ?_); refine box_event ?hg (N := 2) ?hd (cs := #[.slice A0_0 l0_0.length c0_0, .slice A0_1 l0_1.length c0_1]) (t := 51) ?hr ?_; (case hd => rfl); (case hg => rfl); (case hr => first | (go_simp; done) | (go_simp; rfl)); intro gb111 hg w11 hbox hb; have n0_ := am (below_step (by repeat (first | (with_reducible first | exact HB.out | apply below_alloc | apply pw_below_drewN | apply below_drew1) | exact HB.out)) hb); have n1_ := am (hbox); have n2_ := am ((by rw [hg]; exact (below_size (by repeat (first | (with_reducible first | exact HB.out | apply below_alloc | apply pw_below_drewN | apply below_drew1) | exact HB.out))) : w.heap.size ≤ gb111)); have n3_ := am ((by rw [hg]; exact (below_size (by repeat (first | (with_reducible first | exact HB.out | apply below_alloc | apply pw_below_drewN | apply below_drew1) | exact HB.out))) : w.heap.size ≤ gb111)); clear HB; have HB := n0_; have BK111 := n1_; have GW111 := n2_; have GE111 := n3_; clear n0_ n1_ n2_ n3_; clear hb hbox hg) | ((with_reducible refine gate_dst (N := 3) rfl ?_); refine box_event ?hg (N := 3) ?hd (cs := #[.slice A1_0 l1_0.length c1_0, .slice A1_1 l1_1.length c1_1]) (t := 51) ?hr ?_; (case hd => rfl); (case hg => rfl); (case hr => first | (go_simp; done) | (go_simp; rfl)); intro gb112 hg w12 hbox hb; have n0_ := am (blk_below (g := gb111) (o := .cells #[.slice A0_0 l0_0.length c0_0, .slice A0_1 l0_1.length c0_1] 51 (0, 0)) (by (with_reducible repeat (first | refine blk_drewN ?_ _ | refine blk_drew ?_ | refine blk_alloc ?_ _)); exact BK111.out) hb); have n1_ := am (below_step (by repeat (first | (with_reducible first | exact HB.out | apply below_alloc | apply pw_below_drewN | apply below_drew1 | refine below_set ?_ GE111.out) | exact HB.out)) hb); have n2_ := am (hbox); have n3_ := am ((by rw [hg]; exact (below_size (by repeat (first | (with_reducible first | exact HB.out | apply below_alloc | apply pw_below_drewN | apply below_drew1 | refine below_set ?_ GE111.out) | exact HB.out))) : w.heap.size ≤ gb112)); have n4_ := am ((by rw [hg]; exact (below_size (by repeat (first | (with_reducible first | exact HB.out | apply below_alloc | apply pw_below_drewN | apply below_drew1 | refine below_set ?_ GE111.out) | exact HB.out))) : w.heap.size ≤ gb112)); have n5_ := am ((by rw [hg]; exact Nat.ne_of_lt (blk_lt (g := gb111) (o := .cells #[.slice A0_0 l0_0.length c0_0, .slice A0_1 l0_1.length c0_1] 51 (0, 0)) (by (with_reducible repeat (first | refine blk_drewN ?_ _ | refine blk_drew ?_ | refine blk_alloc ?_ _)); exact BK111.out)) : gb111 ≠ gb112)); have n6_ := am ((by rw [hg]; exact Nat.ne_of_gt (blk_lt (g := gb111) (o := .cells #[.slice A0_0 l0_0.length c0_0, .slice A0_1 l0_1.length c0_1] 51 (0, 0)) (by (with_reducible repeat (first | refine blk_drewN ?_ _ | refine blk_drew ?_ | refine blk_alloc ?_ _)); exact BK111.out)) : gb112 ≠ gb111)); clear BK111; clear HB; have BK111 := n0_; have HB := n1_; have BK112 := n2_; have GW112 := n3_; have GE112 := n4_; have NB111_112 := n5_; have NB112_111 := n6_; clear n0_ n1_ n2_ n3_ n4_ n5_ n6_; clear hb hbox hg; have hnb13 := NB111_112.out; have hnc13 := NB112_111.out; have hcz14_0 : w12.cell? ⟨gb111, 0, none⟩ = some (.slice A0_0 l0_0.length c0_0) := (blk_cell BK111.out 0).trans rfl; have hcz14_1 : w12.cell? ⟨gb111, 1, none⟩ = some (.slice A0_1 l0_1.length c0_1) := (blk_cell BK111.out 1).trans rfl; have hfz14_0 := blk_frozen BK111.out 0; have hfz14_1 := blk_frozen BK111.out 1; have hcz15_0 : w12.cell? ⟨gb112, 0, none⟩ = some (.slice A1_0 l1_0.length c1_0) := (blk_cell BK112.out 0).trans rfl; have hcz15_1 : w12.cell? ⟨gb112, 1, none⟩ = some (.slice A1_1 l1_1.length c1_1) := (blk_cell BK112.out 1).trans rfl; have hfz15_0 := blk_frozen BK112.out 0; have hfz15_1 := blk_frozen BK112.out 1) | ((with_reducible refine gate_callee (f := 30) rfl ?_); refine goesL_ (some 9) rfl rfl Tryd.func30 (by kernel_rfl) rfl #[.slice A0_0 l0_0.length c0_0, .slice A1_0 l1_0.length c1_0] rfl (by (try simp only [List.map_toArray, List.map_cons, List.map_nil]); first | done | rfl | (simp only [List.length_drop, List.length_take]; rfl)) ?_; (with_reducible refine (peloruslaw0_SameInts.calls k _ _ l0_0 _ _ l1_0 false _ ?side1 ?side2 ?side3 ?side4 A3.out).mono ?_); (case side1 => repeat (first | exact (Kd.C_below HR0_0.out HB.out) | (with_reducible refine Kd.C_alloc ?_ _) | (with_reducible refine Kd.C_drewN ?_ _) | (with_reducible refine Kd.C_drew ?_))); (case side2 => exact HC0_0.out); (case side3 => repeat (first | exact (Kd.C_below HR1_0.out HB.out) | (with_reducible refine Kd.C_alloc ?_ _) | (with_reducible refine Kd.C_drewN ?_ _) | (with_reducible refine Kd.C_drew ?_))); (case side4 => exact HC1_0.out); rintro e w' ⟨rfl, ⟨nd, rfl⟩⟩; refine ⟨_, rfl, ?_⟩))
  go_ret
  exact ⟨by first | rfl | (simp [errW_none, errW_some] <;> rfl) | (simp [*, errW_none, errW_some] <;> rfl), by repeat (first | (with_reducible first | exact HB.out | apply below_alloc | apply pw_below_drewN | apply below_drew1 | refine below_set ?_ GE111.out | refine below_set ?_ GE112.out) | exact HB.out)⟩
mutual
def pelorusref12_parts.j0 : Nat → ByteArray → Int → Int → Bool → Option (Int × Int)
 | 0, _, _, _, _ => none
 | k + 1, x0, x1, x2, x25 => if x25 = true then (some (0, 1200)) else (pelorusref12_parts.l0 k x0 x1 (wrap64 (Int.tdiv (wrap64 (x2 + 6)) 7)) 0)
def pelorusref12_parts.l0 : Nat → ByteArray → Int → Int → Int → Option (Int × Int)
 | 0, _, _, _, _ => none
 | k + 1, x0, x1, x8, x9 => if x9 < x8 then (if (wrap64 (x1 + x9)) ≥ (x0.size : Int) then (some (0, 1201)) else (if 0 ≤ (wrap64 (x1 + x9)) then (if (wrap64 (x1 + x9)) < (x0.size : Int) then (if (bt x0 (wrap64 (x1 + x9))) < 128 then (some (wrap64 (x1 + x9), 0)) else (pelorusref12_parts.l0 k x0 x1 x8 (wrap64 (x9 + 1)))) else (none)) else (none))) else (some (0, 1200))
end
def pelorusref12_parts.f (k : Nat) (a0 : ByteArray) (a1 : Int) (a2 : Int) : Option (Int × Int) := if a2 = 32 then (if a1 < 0 then (pelorusref12_parts.j0 k a0 a1 a2 true) else (pelorusref12_parts.j0 k a0 a1 a2 (decide (a1 > (a0.size : Int))))) else (if a2 = 64 then (if a1 < 0 then (pelorusref12_parts.j0 k a0 a1 a2 true) else (pelorusref12_parts.j0 k a0 a1 a2 (decide (a1 > (a0.size : Int))))) else (pelorusref12_parts.j0 k a0 a1 a2 true))
theorem pelorusref12_parts.mono_l : ∀ k, (∀ y0 y1 y2 y3, LeO (pelorusref12_parts.j0 k y0 y1 y2 y3) (pelorusref12_parts.j0 (k + 1) y0 y1 y2 y3)) ∧ (∀ y0 y1 y2 y3, LeO (pelorusref12_parts.l0 k y0 y1 y2 y3) (pelorusref12_parts.l0 (k + 1) y0 y1 y2 y3))
 | 0 => ⟨fun _ _ _ _ r h => by simp [pelorusref12_parts.j0] at h, fun _ _ _ _ r h => by simp [pelorusref12_parts.l0] at h⟩
 | k + 1 => by
  obtain ⟨ih0, ih1⟩ := pelorusref12_parts.mono_l k
  refine ⟨?_, ?_⟩
  ·intro y0 y1 y2 y3
   unfold pelorusref12_parts.j0
   repeat' first
   | (with_reducible exact ih0 _ _ _ _)
   | (with_reducible exact ih1 _ _ _ _)
   | (with_reducible exact LeO.refl _)
   | (with_reducible exact LeO.none _)
   | (with_reducible refine LeO.ite ?_ ?_)
   | (with_reducible refine LeO.bind ?_ (fun _ => ?_))
   | exact ih0 _ _ _ _
   | exact ih1 _ _ _ _
   | exact LeO.none _
   | refine LeO.ite ?_ ?_
   | refine LeO.bind ?_ (fun _ => ?_)
  ·intro y0 y1 y2 y3
   unfold pelorusref12_parts.l0
   repeat' first
   | (with_reducible exact ih0 _ _ _ _)
   | (with_reducible exact ih1 _ _ _ _)
   | (with_reducible exact LeO.refl _)
   | (with_reducible exact LeO.none _)
   | (with_reducible refine LeO.ite ?_ ?_)
   | (with_reducible refine LeO.bind ?_ (fun _ => ?_))
   | exact ih0 _ _ _ _
   | exact ih1 _ _ _ _
   | exact LeO.none _
   | refine LeO.ite ?_ ?_
   | refine LeO.bind ?_ (fun _ => ?_)
theorem pelorusref12_parts.mono : ∀ a0 a1 a2 k, LeO (pelorusref12_parts.f k a0 a1 a2) (pelorusref12_parts.f (k + 1) a0 a1 a2) := by
 intro a0 a1 a2 k
 obtain ⟨ih0, ih1⟩ := pelorusref12_parts.mono_l k
 unfold pelorusref12_parts.f
 repeat' first
   | (with_reducible exact ih0 _ _ _ _)
   | (with_reducible exact ih1 _ _ _ _)
   | (with_reducible exact LeO.refl _)
   | (with_reducible exact LeO.none _)
   | (with_reducible refine LeO.ite ?_ ?_)
   | (with_reducible refine LeO.bind ?_ (fun _ => ?_))
   | exact ih0 _ _ _ _
   | exact ih1 _ _ _ _
   | exact LeO.none _
   | refine LeO.ite ?_ ?_
   | refine LeO.bind ?_ (fun _ => ?_)
set_option maxHeartbeats 8000000 in
set_option maxRecDepth 100000 in
theorem pelorusref12_parts.calls (k : Nat) (a0 : ByteArray) (a1 : Int) (a2 : Int) (r1 : Int) (r2 : Int) (w : World) (h : pelorusref12_parts.f k a0 a1 a2 = some (r1, r2)) :
  Calls Tryd.prog 31 #[.string a0, .int .i64 a1, .int .i64 a2] w fun e w' => e = .returned (.tuple #[.int .i64 r1, .int .i64 r2]) ∧ Drawn0 w w' := by
 have H : (if a2 = 32 then (if a1 < 0 then (pelorusref12_parts.j0 k a0 a1 a2 true) else (pelorusref12_parts.j0 k a0 a1 a2 (decide (a1 > (a0.size : Int))))) else (if a2 = 64 then (if a1 < 0 then (pelorusref12_parts.j0 k a0 a1 a2 true) else (pelorusref12_parts.j0 k a0 a1 a2 (decide (a1 > (a0.size : Int))))) else (pelorusref12_parts.j0 k a0 a1 a2 true))) = some (r1, r2) := h
 clear h
 have HC4 := am H
 clear H
 go_enter Tryd.func31, Tryd.ntmps31
 go_upto_region 1 with (fail)
 go_cut [25] (fun v25 wc => ∃ (kq : Nat) (x25_3 : Bool), v25 = .bool x25_3 ∧ Aside0 (pelorusref12_parts.j0 kq a0 a1 a2 x25_3 = some (r1, r2)) ∧ Aside0 (kq ≤ k) ∧ Drawn0 w wc)
 case first =>
  have H := HC4.out
  clear HC4
  by_cases c5 : a2 = 32
  ·rw [if_pos c5] at H
   have c5b0 : (a2 == 32) = true := beq_iff_eq.mpr c5
   have c5b1 : (a2 != 32) = false := bne_eq_false_iff_eq.mpr c5
   clear c5
   (first | rw [c5b0] | (simp only [i64_w, i32_w]; rw [c5b0]) | skip)
   by_cases c6 : a1 < 0
   ·rw [if_pos c6] at H
    have c6b0 : decide (a1 < 0) = true := decide_eq_true c6
    clear c6
    have H' := am H
    clear H
    go_wp2
    go_meet
    case rel => exact ⟨_, (true), (by first | rfl | (simp; done) | (simp [*]; done)), H', ⟨by first | omega | exact Nat.le_refl _⟩, by repeat (first | exact Drawn0.refl _ | apply Drawn0.step)⟩
   ·rw [if_neg c6] at H
    have c6b0 : decide (a1 < 0) = false := decide_eq_false c6
    clear c6
    have H' := am H
    clear H
    go_wp2
    go_meet
    case rel => exact ⟨_, (decide (a1 > (a0.size : Int))), (by first | rfl | (simp; done) | (simp [*]; done)), H', ⟨by first | omega | exact Nat.le_refl _⟩, by repeat (first | exact Drawn0.refl _ | apply Drawn0.step)⟩
  ·rw [if_neg c5] at H
   have c5b0 : (a2 == 32) = false := beq_eq_false_iff_ne.mpr c5
   have c5b1 : (a2 != 32) = true := bne_iff_ne.mpr c5
   (first | rw [c5b0] | (simp only [i64_w, i32_w]; rw [c5b0]) | skip)
   by_cases c7 : a2 = 64
   ·rw [if_pos c7] at H
    have c7b0 : (a2 == 64) = true := beq_iff_eq.mpr c7
    have c7b1 : (a2 != 64) = false := bne_eq_false_iff_eq.mpr c7
    clear c7
    by_cases c8 : a1 < 0
    ·rw [if_pos c8] at H
     have c8b0 : decide (a1 < 0) = true := decide_eq_true c8
     clear c8
     have H' := am H
     clear H
     go_wp2
     go_meet
     case rel => exact ⟨_, (true), (by first | rfl | (simp; done) | (simp [*]; done)), H', ⟨by first | omega | exact Nat.le_refl _⟩, by repeat (first | exact Drawn0.refl _ | apply Drawn0.step)⟩
    ·rw [if_neg c8] at H
     have c8b0 : decide (a1 < 0) = false := decide_eq_false c8
     clear c8
     have H' := am H
     clear H
     go_wp2
     go_meet
     case rel => exact ⟨_, (decide (a1 > (a0.size : Int))), (by first | rfl | (simp; done) | (simp [*]; done)), H', ⟨by first | omega | exact Nat.le_refl _⟩, by repeat (first | exact Drawn0.refl _ | apply Drawn0.step)⟩
   ·rw [if_neg c7] at H
    have c7b0 : (a2 == 64) = false := beq_eq_false_iff_ne.mpr c7
    have c7b1 : (a2 != 64) = true := bne_iff_ne.mpr c7
    have H' := am H
    clear H
    go_wp2
    go_meet
    case rel => exact ⟨_, (true), (by first | rfl | (simp; done) | (simp [*]; done)), H', ⟨by first | omega | exact Nat.le_refl _⟩, by repeat (first | exact Drawn0.refl _ | apply Drawn0.step)⟩
 case rest =>
  clear HC4
  try clear p2
  try clear c3
  try clear c5
  try clear c5b0
  try clear c5b1
  try clear c6
  try clear c6b0
  try clear c7
  try clear c7b0
  try clear c7b1
  try clear c8
  try clear c8b0
  obtain ⟨kq, x25_3, rfl, HA, HJ3, ⟨mc3, rfl⟩⟩ := hcut
  cases kq with
  | zero => exact absurd HA.out (by simp [pelorusref12_parts.j0])
  | succ kj3 =>
   have H := HA.out
   clear HA
   simp only [pelorusref12_parts.j0] at H
   by_cases c9 : x25_3 = true
   ·subst c9
    have H1 : (some (0, 1200)) = some (r1, r2) := by rw [if_pos rfl] at H; exact H
    clear H
    have H := H1
    clear H1
    simp only [Option.some.injEq, Prod.mk.injEq] at H
    obtain ⟨rfl, rfl⟩ := H
    go_wp2
    go_ret2
    exact ⟨by first | rfl | (simp; done) | (simp [*]; done), by repeat (first | exact Drawn0.refl _ | apply Drawn0.step)⟩
   ·replace c9 := Bool.eq_false_iff.mpr c9
    subst c9
    have H1 : (pelorusref12_parts.l0 kj3 a0 a1 (wrap64 (Int.tdiv (wrap64 (a2 + 6)) 7)) 0) = some (r1, r2) := by rw [if_neg (show ¬ (false = true) by decide)] at H; exact H
    clear H
    have H := H1
    clear H1
    have H' := am H
    clear H
    go_wp2
    go_loopg [9] kj3 (fun kq v9 w' => ∃ (x9_2 : Int), v9 = .int .i64 x9_2 ∧ Aside0 (pelorusref12_parts.l0 kq a0 a1 (wrap64 (Int.tdiv (wrap64 (a2 + 6)) 7)) x9_2 = some (r1, r2)) ∧ Aside0 (kq ≤ kj3) ∧ Drawn0 w w')
    case atStart => exact ⟨(0), (by first | rfl | (simp; done) | (simp [*]; done)), H', ⟨Nat.le_refl _⟩, by repeat (first | exact Drawn0.refl _ | apply Drawn0.step)⟩
    case round =>
     clear H'
     try clear p2
     try clear c3
     try clear c5
     try clear c5b0
     try clear c5b1
     try clear c6
     try clear c6b0
     try clear p6
     try clear c7
     try clear c7b0
     try clear c7b1
     try clear c8
     try clear c8b0
     try clear c9
     try clear p2
     obtain ⟨x9_2, rfl, HA, HK2, ⟨m2, rfl⟩⟩ := hrel
     cases gk with
     | zero => exact absurd HA.out (by simp [pelorusref12_parts.l0])
     | succ k2 =>
      have H := HA.out
      clear HA
      simp only [pelorusref12_parts.l0] at H
      by_cases c10 : x9_2 < (wrap64 (Int.tdiv (wrap64 (a2 + 6)) 7))
      ·rw [if_pos c10] at H
       have c10b0 : decide (x9_2 < (wrap64 (Int.tdiv (wrap64 (a2 + 6)) 7))) = true := decide_eq_true c10
       clear c10
       by_cases c11 : (wrap64 (a1 + x9_2)) ≥ (a0.size : Int)
       ·rw [if_pos c11] at H
        have c11b0 : decide ((a0.size : Int) ≤ (wrap64 (a1 + x9_2))) = true := decide_eq_true c11
        clear c11
        simp only [Option.some.injEq, Prod.mk.injEq] at H
        obtain ⟨rfl, rfl⟩ := H
        go_wp2
        go_ret2
        exact ⟨by first | rfl | (simp; done) | (simp [*]; done), by repeat (first | exact Drawn0.refl _ | apply Drawn0.step)⟩
       ·rw [if_neg c11] at H
        have c11b0 : decide ((a0.size : Int) ≤ (wrap64 (a1 + x9_2))) = false := decide_eq_false c11
        clear c11
        obtain ⟨ji12, hji12⟩ : ∃ j_ : Int, (wrap64 (a1 + x9_2)) = j_ := ⟨_, rfl⟩
        replace H : (if 0 ≤ (ji12) then (if (ji12) < (a0.size : Int) then (if (bt a0 (ji12)) < 128 then (some (ji12, 0)) else (pelorusref12_parts.l0 k2 a0 a1 (wrap64 (Int.tdiv (wrap64 (a2 + 6)) 7)) (wrap64 (x9_2 + 1)))) else (none)) else (none)) = some (r1, r2) := by first | (rw [hji12] at H; exact H) | (simp only [hji12] at H ⊢; exact H)
        (try rw [hji12] at c11b0)
        have hji12w : (IntKind.i64.wrap (a1 + x9_2)) = ji12 := (i64_w _).trans hji12
        by_cases c13 : 0 ≤ (ji12)
        ·rw [if_pos c13] at H
         have c13b0 : decide (0 ≤ (ji12)) = true := decide_eq_true c13
         clear c13
         by_cases c14 : (ji12) < (a0.size : Int)
         ·rw [if_pos c14] at H
          have c14b0 : decide ((ji12) < (a0.size : Int)) = true := decide_eq_true c14
          clear c14
          by_cases c16 : (bt a0 (ji12)) < 128
          ·rw [if_pos c16] at H
           have c16b0 : decide ((bt a0 (ji12)) < 128) = true := decide_eq_true c16
           clear c16
           simp only [Option.some.injEq, Prod.mk.injEq] at H
           obtain ⟨rfl, rfl⟩ := H
           have p15 : 0 ≤ ((ji12) : Int) := of_decide_eq_true (by first | (with_reducible assumption) | assumption)
           have q15 : (ji12) < (a0.size : Int) := of_decide_eq_true (by first | (with_reducible assumption) | assumption)
           have hx15 := bt_at a0 (ji12)
           replace p15 := eq_true p15
           replace q15 := eq_true q15
           go_wp2
           go_ret2
           exact ⟨by first | rfl | (simp; done) | (simp only [← hji12] <;> (first | rfl | simp)) | (simp [*]; done), by repeat (first | exact Drawn0.refl _ | apply Drawn0.step)⟩
          ·rw [if_neg c16] at H
           have c16b0 : decide ((bt a0 (ji12)) < 128) = false := decide_eq_false c16
           clear c16
           have H' := am H
           clear H
           have p15 : 0 ≤ ((ji12) : Int) := of_decide_eq_true (by first | (with_reducible assumption) | assumption)
           have q15 : (ji12) < (a0.size : Int) := of_decide_eq_true (by first | (with_reducible assumption) | assumption)
           have hx15 := bt_at a0 (ji12)
           replace p15 := eq_true p15
           replace q15 := eq_true q15
           go_wp2
           go_roundg k2
           case measure => have := HJ3.out; have := HK2.out; omega
           case rel => exact ⟨(wrap64 (x9_2 + 1)), (by first | rfl | (simp; done) | (simp [*]; done)), H', ⟨by have := HJ3.out; have := HK2.out; omega⟩, by repeat (first | exact Drawn0.refl _ | apply Drawn0.step)⟩
         ·rw [if_neg c14] at H
          exact absurd H (by simp)
        ·rw [if_neg c13] at H
         exact absurd H (by simp)
      ·rw [if_neg c10] at H
       have c10b0 : decide (x9_2 < (wrap64 (Int.tdiv (wrap64 (a2 + 6)) 7))) = false := decide_eq_false c10
       clear c10
       simp only [Option.some.injEq, Prod.mk.injEq] at H
       obtain ⟨rfl, rfl⟩ := H
       go_wp2
       go_ret2
       exact ⟨by first | rfl | (simp; done) | (simp [*]; done), by repeat (first | exact Drawn0.refl _ | apply Drawn0.step)⟩
mutual
def pelorusref12_Unleb.j0 : Nat → ByteArray → Int → Int → Bool → Option (Int × Int × Int)
 | 0, _, _, _, _ => none
 | k + 1, x0, x1, x9, x40 => if x40 = true then (some (0, 0, 1200)) else (pelorusref12_Unleb.l0 k x0 x1 x9 0 x9)
def pelorusref12_Unleb.l0 : Nat → ByteArray → Int → Int → Int → Int → Option (Int × Int × Int)
 | 0, _, _, _, _, _ => none
 | k + 1, x0, x1, x9, x11, x12 => if x12 ≥ x1 then (if 0 ≤ x12 then (if x12 < (x0.size : Int) then (pelorusref12_Unleb.l0 k x0 x1 x9 (Go.bits .or .i64 (wrap64 (x11 * 128)) (wrap64 (Go.bits .and .u8 (bt x0 x12) 127))) (wrap64 (x12 - 1))) else (none)) else (none)) else (some (x11, wrap64 (x9 + 1), 0))
end
def pelorusref12_Unleb.f (k : Nat) (a0 : ByteArray) (a1 : Int) (a2 : Int) : Option (Int × Int × Int) := (pelorusref12_parts.f k a0 a1 a2).bind fun bt115 => (if bt115.2 = 0 then (if (wrap64 (bt115.1 - a1)) = (wrap64 ((wrap64 (Int.tdiv (wrap64 (a2 + 6)) 7)) - 1)) then (if 0 ≤ bt115.1 then (if bt115.1 < (a0.size : Int) then (if 0 ≤ (Int.tmod a2 7) then (pelorusref12_Unleb.j0 k a0 a1 bt115.1 ((shr .i64 (wrap64 (bt a0 bt115.1)) (Int.tmod a2 7)) != 0)) else (none)) else (none)) else (none)) else (pelorusref12_Unleb.j0 k a0 a1 bt115.1 false)) else (some (0, 0, bt115.2)))
theorem pelorusref12_Unleb.mono_l : ∀ k, (∀ y0 y1 y2 y3, LeO (pelorusref12_Unleb.j0 k y0 y1 y2 y3) (pelorusref12_Unleb.j0 (k + 1) y0 y1 y2 y3)) ∧ (∀ y0 y1 y2 y3 y4, LeO (pelorusref12_Unleb.l0 k y0 y1 y2 y3 y4) (pelorusref12_Unleb.l0 (k + 1) y0 y1 y2 y3 y4))
 | 0 => ⟨fun _ _ _ _ r h => by simp [pelorusref12_Unleb.j0] at h, fun _ _ _ _ _ r h => by simp [pelorusref12_Unleb.l0] at h⟩
 | k + 1 => by
  obtain ⟨ih0, ih1⟩ := pelorusref12_Unleb.mono_l k
  refine ⟨?_, ?_⟩
  ·intro y0 y1 y2 y3
   unfold pelorusref12_Unleb.j0
   repeat' first
   | (with_reducible exact ih0 _ _ _ _)
   | (with_reducible exact ih1 _ _ _ _ _)
   | (with_reducible exact pelorusref12_parts.mono _ _ _ _)
   | (with_reducible exact LeO.refl _)
   | (with_reducible exact LeO.none _)
   | (with_reducible refine LeO.ite ?_ ?_)
   | (with_reducible refine LeO.bind ?_ (fun _ => ?_))
   | exact ih0 _ _ _ _
   | exact ih1 _ _ _ _ _
   | exact pelorusref12_parts.mono _ _ _ _
   | exact LeO.none _
   | refine LeO.ite ?_ ?_
   | refine LeO.bind ?_ (fun _ => ?_)
  ·intro y0 y1 y2 y3 y4
   unfold pelorusref12_Unleb.l0
   repeat' first
   | (with_reducible exact ih0 _ _ _ _)
   | (with_reducible exact ih1 _ _ _ _ _)
   | (with_reducible exact pelorusref12_parts.mono _ _ _ _)
   | (with_reducible exact LeO.refl _)
   | (with_reducible exact LeO.none _)
   | (with_reducible refine LeO.ite ?_ ?_)
   | (with_reducible refine LeO.bind ?_ (fun _ => ?_))
   | exact ih0 _ _ _ _
   | exact ih1 _ _ _ _ _
   | exact pelorusref12_parts.mono _ _ _ _
   | exact LeO.none _
   | refine LeO.ite ?_ ?_
   | refine LeO.bind ?_ (fun _ => ?_)
theorem pelorusref12_Unleb.mono : ∀ a0 a1 a2 k, LeO (pelorusref12_Unleb.f k a0 a1 a2) (pelorusref12_Unleb.f (k + 1) a0 a1 a2) := by
 intro a0 a1 a2 k
 obtain ⟨ih0, ih1⟩ := pelorusref12_Unleb.mono_l k
 unfold pelorusref12_Unleb.f
 repeat' first
   | (with_reducible exact ih0 _ _ _ _)
   | (with_reducible exact ih1 _ _ _ _ _)
   | (with_reducible exact pelorusref12_parts.mono _ _ _ _)
   | (with_reducible exact LeO.refl _)
   | (with_reducible exact LeO.none _)
   | (with_reducible refine LeO.ite ?_ ?_)
   | (with_reducible refine LeO.bind ?_ (fun _ => ?_))
   | exact ih0 _ _ _ _
   | exact ih1 _ _ _ _ _
   | exact pelorusref12_parts.mono _ _ _ _
   | exact LeO.none _
   | refine LeO.ite ?_ ?_
   | refine LeO.bind ?_ (fun _ => ?_)
set_option maxHeartbeats 8000000 in
set_option maxRecDepth 100000 in
theorem pelorusref12_Unleb.calls (k : Nat) (a0 : ByteArray) (a1 : Int) (a2 : Int) (r1 : Int) (r2 : Int) (r3 : Int) (w : World) (h : pelorusref12_Unleb.f k a0 a1 a2 = some (r1, r2, r3)) :
  Calls Tryd.prog 18 #[.string a0, .int .i64 a1, .int .i64 a2] w fun e w' => e = .returned (.tuple #[.int .i64 r1, .int .i64 r2, .int .i64 r3]) ∧ Drawn0 w w' := by
 have H : ((pelorusref12_parts.f k a0 a1 a2).bind fun bt115 => (if bt115.2 = 0 then (if (wrap64 (bt115.1 - a1)) = (wrap64 ((wrap64 (Int.tdiv (wrap64 (a2 + 6)) 7)) - 1)) then (if 0 ≤ bt115.1 then (if bt115.1 < (a0.size : Int) then (if 0 ≤ (Int.tmod a2 7) then (pelorusref12_Unleb.j0 k a0 a1 bt115.1 ((shr .i64 (wrap64 (bt a0 bt115.1)) (Int.tmod a2 7)) != 0)) else (none)) else (none)) else (none)) else (pelorusref12_Unleb.j0 k a0 a1 bt115.1 false)) else (some (0, 0, bt115.2)))) = some (r1, r2, r3) := h
 clear h
 replace H := Option.bind_eq_some_iff.mp H
 obtain ⟨⟨t115, t116⟩, A40, H⟩ := H
 replace H : (if t116 = 0 then (if (wrap64 (t115 - a1)) = (wrap64 ((wrap64 (Int.tdiv (wrap64 (a2 + 6)) 7)) - 1)) then (if 0 ≤ t115 then (if t115 < (a0.size : Int) then (if 0 ≤ (Int.tmod a2 7) then (pelorusref12_Unleb.j0 k a0 a1 t115 ((shr .i64 (wrap64 (bt a0 t115)) (Int.tmod a2 7)) != 0)) else (none)) else (none)) else (none)) else (pelorusref12_Unleb.j0 k a0 a1 t115 false)) else (some (0, 0, t116))) = some (r1, r2, r3) := H
 have A4 := am A40
 clear A40
 by_cases c5 : t116 = 0
 ·rw [if_pos c5] at H
  have c5b0 : (t116 == 0) = true := beq_iff_eq.mpr c5
  have c5b1 : (t116 != 0) = false := bne_eq_false_iff_eq.mpr c5
  clear c5
  have HC6 := am H
  clear H
  go_enter Tryd.func18, Tryd.ntmps18
  go_upto_region 4 with (first | ((with_reducible refine gate_callee (f := 31) rfl ?_); refine goesL_ (some 17) rfl rfl Tryd.func31 (by kernel_rfl) rfl #[.string a0, .int .i64 a1, .int .i64 a2] rfl (by (try simp only [List.map_toArray, List.map_cons, List.map_nil]); first | done | rfl | (simp only [List.length_drop, List.length_take]; rfl)) ?_; (with_reducible refine (pelorusref12_parts.calls k a0 a1 a2 t115 t116 _ A4.out).mono ?_); rintro e w' ⟨rfl, ⟨nd, rfl⟩⟩; refine ⟨_, rfl, ?_⟩))
  (try simp only [Act.put, List.setIfInBounds_toArray, List.set_cons_zero, List.set_cons_succ])
  go_cut [40] (fun v40 wc => ∃ (kq : Nat) (x40_5 : Bool), v40 = .bool x40_5 ∧ Aside0 (pelorusref12_Unleb.j0 kq a0 a1 t115 x40_5 = some (r1, r2, r3)) ∧ Aside0 (kq ≤ k) ∧ Drawn0 w wc)
  case first =>
   have H := HC6.out
   clear HC6
   by_cases c7 : (wrap64 (t115 - a1)) = (wrap64 ((wrap64 (Int.tdiv (wrap64 (a2 + 6)) 7)) - 1))
   ·rw [if_pos c7] at H
    have c7b0 : ((wrap64 (t115 - a1)) == (wrap64 ((wrap64 (Int.tdiv (wrap64 (a2 + 6)) 7)) - 1))) = true := beq_iff_eq.mpr c7
    have c7b1 : ((wrap64 (t115 - a1)) != (wrap64 ((wrap64 (Int.tdiv (wrap64 (a2 + 6)) 7)) - 1))) = false := bne_eq_false_iff_eq.mpr c7
    clear c7
    (first | rw [c7b0] | (simp only [i64_w, i32_w]; rw [c7b0]) | skip)
    by_cases c8 : 0 ≤ t115
    ·rw [if_pos c8] at H
     have c8b0 : decide (0 ≤ t115) = true := decide_eq_true c8
     clear c8
     by_cases c9 : t115 < (a0.size : Int)
     ·rw [if_pos c9] at H
      have c9b0 : decide (t115 < (a0.size : Int)) = true := decide_eq_true c9
      clear c9
      obtain ⟨ji11, hji11⟩ : ∃ j_ : Int, (Int.tmod a2 7) = j_ := ⟨_, rfl⟩
      replace H : (if 0 ≤ (ji11) then (pelorusref12_Unleb.j0 k a0 a1 t115 ((shr .i64 (wrap64 (bt a0 t115)) (ji11)) != 0)) else (none)) = some (r1, r2, r3) := by first | (rw [hji11] at H; exact H) | (simp only [hji11] at H ⊢; exact H)
      by_cases c12 : 0 ≤ (ji11)
      ·rw [if_pos c12] at H
       have c12b0 := eq_true c12
       have c12b1 : decide (0 ≤ (ji11)) = true := decide_eq_true c12
       clear c12
       obtain ⟨ji13, hji13⟩ : ∃ j_ : Int, (shr .i64 (wrap64 (bt a0 t115)) (ji11)) = j_ := ⟨_, rfl⟩
       replace H : (pelorusref12_Unleb.j0 k a0 a1 t115 ((ji13) != 0)) = some (r1, r2, r3) := by first | (rw [hji13] at H; exact H) | (simp only [hji13] at H ⊢; exact H)
       have hji13_ : ((wrap64 (bt a0 t115)) / 2 ^ min (ji11).toNat 64) = ji13 := hji13
       have hji13z : (ji11) ≤ 64 → ((wrap64 (bt a0 t115)) / 2 ^ (ji11).toNat) = ji13 := shr_small hji13
       have H' := am H
       clear H
       have p10 : 0 ≤ (t115 : Int) := of_decide_eq_true (by first | (with_reducible assumption) | assumption)
       have q10 : t115 < (a0.size : Int) := of_decide_eq_true (by first | (with_reducible assumption) | assumption)
       have hx10 := bt_at a0 t115
       replace p10 := eq_true p10
       replace q10 := eq_true q10
       go_wp2
       go_meet
       case rel => exact ⟨_, (((ji13) != 0)), (by first | rfl | (simp; done) | (simp only [← hji13] <;> (first | rfl | simp)) | (simp [*]; done)), H', ⟨by first | omega | exact Nat.le_refl _⟩, by repeat (first | exact Drawn0.refl _ | apply Drawn0.step)⟩
      ·rw [if_neg c12] at H
       exact absurd H (by simp)
     ·rw [if_neg c9] at H
      exact absurd H (by simp)
    ·rw [if_neg c8] at H
     exact absurd H (by simp)
   ·rw [if_neg c7] at H
    have c7b0 : ((wrap64 (t115 - a1)) == (wrap64 ((wrap64 (Int.tdiv (wrap64 (a2 + 6)) 7)) - 1))) = false := beq_eq_false_iff_ne.mpr c7
    have c7b1 : ((wrap64 (t115 - a1)) != (wrap64 ((wrap64 (Int.tdiv (wrap64 (a2 + 6)) 7)) - 1))) = true := bne_iff_ne.mpr c7
    (first | rw [c7b0] | (simp only [i64_w, i32_w]; rw [c7b0]) | skip)
    have H' := am H
    clear H
    go_wp2
    go_meet
    case rel => exact ⟨_, (false), (by first | rfl | (simp; done) | (simp [*]; done)), H', ⟨by first | omega | exact Nat.le_refl _⟩, by repeat (first | exact Drawn0.refl _ | apply Drawn0.step)⟩
  case rest =>
   clear HC6
   try clear c1
   try clear p1
   try clear q1
   try clear hx1
   try clear p2
   try clear c3
   try clear c5
   try clear c5b0
   try clear c5b1
   try clear p6
   try clear c7
   try clear c7b0
   try clear c7b1
   try clear c8
   try clear c8b0
   try clear c9
   try clear c9b0
   try clear p10
   try clear q10
   try clear hx10
   try clear c12
   try clear c12b0
   try clear c12b1
   try clear p10
   try clear q10
   obtain ⟨kq, x40_5, rfl, HA, HJ5, ⟨mc5, rfl⟩⟩ := hcut
   cases kq with
   | zero => exact absurd HA.out (by simp [pelorusref12_Unleb.j0])
   | succ kj5 =>
    have H := HA.out
    clear HA
    simp only [pelorusref12_Unleb.j0] at H
    by_cases c14 : x40_5 = true
    ·subst c14
     have H1 : (some (0, 0, 1200)) = some (r1, r2, r3) := by rw [if_pos rfl] at H; exact H
     clear H
     have H := H1
     clear H1
     simp only [Option.some.injEq, Prod.mk.injEq] at H
     obtain ⟨rfl, rfl, rfl⟩ := H
     go_wp2
     go_ret3
     exact ⟨by first | rfl | (simp; done) | (simp [*]; done), by repeat (first | exact Drawn0.refl _ | apply Drawn0.step)⟩
    ·replace c14 := Bool.eq_false_iff.mpr c14
     subst c14
     have H1 : (pelorusref12_Unleb.l0 kj5 a0 a1 t115 0 t115) = some (r1, r2, r3) := by rw [if_neg (show ¬ (false = true) by decide)] at H; exact H
     clear H
     have H := H1
     clear H1
     have H' := am H
     clear H
     go_wp2
     go_loopg [11, 12] kj5 (fun kq v11 v12 w' => ∃ (x11_2 : Int) (x12_2 : Int), v11 = .int .i64 x11_2 ∧ v12 = .int .i64 x12_2 ∧ Aside0 (pelorusref12_Unleb.l0 kq a0 a1 t115 x11_2 x12_2 = some (r1, r2, r3)) ∧ Aside0 (kq ≤ kj5) ∧ Drawn0 w w')
     case atStart => exact ⟨(0), (t115), (by first | rfl | (simp; done) | (simp [*]; done)), (by first | rfl | (simp; done) | (simp [*]; done)), H', ⟨Nat.le_refl _⟩, by repeat (first | exact Drawn0.refl _ | apply Drawn0.step)⟩
     case round =>
      clear H'
      try clear c1
      try clear p1
      try clear q1
      try clear hx1
      try clear p2
      try clear c3
      try clear c5
      try clear c5b0
      try clear c5b1
      try clear p6
      try clear c7
      try clear c7b0
      try clear c7b1
      try clear c8
      try clear c8b0
      try clear c9
      try clear c9b0
      try clear p10
      try clear q10
      try clear hx10
      try clear c12
      try clear c12b0
      try clear c12b1
      try clear c14
      try clear p1
      try clear p10
      try clear p2
      try clear p6
      try clear q1
      try clear q10
      obtain ⟨x11_2, x12_2, rfl, rfl, HA, HK2, ⟨m2, rfl⟩⟩ := hrel
      cases gk with
      | zero => exact absurd HA.out (by simp [pelorusref12_Unleb.l0])
      | succ k2 =>
       have H := HA.out
       clear HA
       simp only [pelorusref12_Unleb.l0] at H
       by_cases c15 : x12_2 ≥ a1
       ·rw [if_pos c15] at H
        have c15b0 : decide (a1 ≤ x12_2) = true := decide_eq_true c15
        clear c15
        by_cases c16 : 0 ≤ x12_2
        ·rw [if_pos c16] at H
         have c16b0 : decide (0 ≤ x12_2) = true := decide_eq_true c16
         clear c16
         by_cases c17 : x12_2 < (a0.size : Int)
         ·rw [if_pos c17] at H
          have c17b0 : decide (x12_2 < (a0.size : Int)) = true := decide_eq_true c17
          clear c17
          have H' := am H
          clear H
          have p18 : 0 ≤ (x12_2 : Int) := of_decide_eq_true (by first | (with_reducible assumption) | assumption)
          have q18 : x12_2 < (a0.size : Int) := of_decide_eq_true (by first | (with_reducible assumption) | assumption)
          have hx18 := bt_at a0 x12_2
          replace p18 := eq_true p18
          replace q18 := eq_true q18
          go_wp2
          go_roundg k2
          case measure => have := HJ5.out; have := HK2.out; omega
          case rel => exact ⟨(Go.bits .or .i64 (wrap64 (x11_2 * 128)) (wrap64 (Go.bits .and .u8 (bt a0 x12_2) 127))), (wrap64 (x12_2 - 1)), (by first | rfl | (simp; done) | (simp [*]; done)), (by first | rfl | (simp; done) | (simp [*]; done)), H', ⟨by have := HJ5.out; have := HK2.out; omega⟩, by repeat (first | exact Drawn0.refl _ | apply Drawn0.step)⟩
         ·rw [if_neg c17] at H
          exact absurd H (by simp)
        ·rw [if_neg c16] at H
         exact absurd H (by simp)
       ·rw [if_neg c15] at H
        have c15b0 : decide (a1 ≤ x12_2) = false := decide_eq_false c15
        clear c15
        simp only [Option.some.injEq, Prod.mk.injEq] at H
        obtain ⟨rfl, rfl, rfl⟩ := H
        go_wp2
        go_ret3
        exact ⟨by first | rfl | (simp; done) | (simp [*]; done), by repeat (first | exact Drawn0.refl _ | apply Drawn0.step)⟩
 ·rw [if_neg c5] at H
  have c5b0 : (t116 == 0) = false := beq_eq_false_iff_ne.mpr c5
  have c5b1 : (t116 != 0) = true := bne_iff_ne.mpr c5
  simp only [Option.some.injEq, Prod.mk.injEq] at H
  obtain ⟨rfl, rfl, rfl⟩ := H
  go_enter Tryd.func18, Tryd.ntmps18
  go_wp2_with (first | ((with_reducible refine gate_callee (f := 31) rfl ?_); refine goesL_ (some 17) rfl rfl Tryd.func31 (by kernel_rfl) rfl #[.string a0, .int .i64 a1, .int .i64 a2] rfl (by (try simp only [List.map_toArray, List.map_cons, List.map_nil]); first | done | rfl | (simp only [List.length_drop, List.length_take]; rfl)) ?_; (with_reducible refine (pelorusref12_parts.calls k a0 a1 a2 t115 t116 _ A4.out).mono ?_); rintro e w' ⟨rfl, ⟨nd, rfl⟩⟩; refine ⟨_, rfl, ?_⟩))
  go_ret3
  exact ⟨by first | rfl | (simp; done) | (simp [*]; done), by repeat (first | exact Drawn0.refl _ | apply Drawn0.step)⟩
end Go.Proofs.YtkdoijfjceeblaaDoor.F
end
section
namespace Go.Proofs.YtkdoijfjceeblaaDoor.LebMath
open Go Go.RowKit Go.Proofs.YtkdoijfjceeblaaDoorW.PrintWords Go.Proofs.YtkdoijfjceeblaaDoorW.PrintMore
theorem wrap64_eq {x : Int} (h0 : -9223372036854775808 ≤ x) (h1 : x < 9223372036854775808) : wrap64 x = x := by unfold wrap64; omega
theorem wrap64_mod (x : Int) : ∃ q : Int, wrap64 x = x + 18446744073709551616 * q := ⟨-((x + 9223372036854775808) / 18446744073709551616), by unfold wrap64; omega⟩
theorem wrap64_idem (x y : Int) (h : x % 18446744073709551616 = y % 18446744073709551616) : wrap64 x = wrap64 y := by unfold wrap64; omega
theorem u64_eq (x : Int) : IntKind.u64.wrap x = x % 18446744073709551616 := by
 simp only [IntKind.wrap, IntKind.bits, IntKind.signed]; simp
theorem i64_eq (x : Int) : IntKind.i64.wrap x = wrap64 x := by unfold wrap64; exact IntKind.wrap_i64 x
theorem ofInt_toNat (n : Nat) (x : Int) : (BitVec.ofInt n x).toNat = (x % (2 ^ n : Nat)).toNat := by
 simp [BitVec.toNat_ofInt]
theorem and_u8 (b : Int) (h0 : 0 ≤ b) (h1 : b < 256) : Go.bits .and .u8 b 127 = b % 128 := by
 have h : ∀ c : Fin 256, Go.bits .and .u8 (c.val : Int) 127 = (c.val : Int) % 128 := by decide +kernel
 have := h ⟨b.toNat, by omega⟩
 simp only [Int.toNat_of_nonneg h0] at this
 exact this
theorem and_mask (x : Int) (m : Nat) (hm : m < 63) (M : Int) (hM : M = ((2 ^ m : Nat) : Int) - 1) : Go.bits .and .i64 x M = x % ((2 ^ m : Nat) : Int) := by
 subst hM
 have hp : (2 : Nat) ^ m ≤ 2 ^ 62 := Nat.pow_le_pow_right (by omega) (by omega)
 have hp0 : 0 < (2 : Nat) ^ m := Nat.two_pow_pos m
 show IntKind.i64.wrap (((BitVec.ofInt 64 x &&& BitVec.ofInt 64 (((2 ^ m : Nat) : Int) - 1)).toNat : Nat) : Int) = _
 rw [BitVec.toNat_and, ofInt_toNat, ofInt_toNat, i64_eq]
 have e1 : ((((2 ^ m : Nat) : Int) - 1) % ((2 ^ 64 : Nat) : Int)).toNat = 2 ^ m - 1 := by
  have : ((2 ^ 64 : Nat) : Int) = 18446744073709551616 := by decide
  rw [this]; omega
 rw [e1, Nat.and_two_pow_sub_one_eq_mod]
 have e2 : (((x % ((2 ^ 64 : Nat) : Int)).toNat % 2 ^ m : Nat) : Int) = x % ((2 ^ m : Nat) : Int) := by
  rw [Int.natCast_emod, Int.toNat_of_nonneg (Int.emod_nonneg _ (by decide))]
  refine Int.emod_emod_of_dvd _ ?_
  have : (2 ^ m : Nat) ∣ (2 ^ 64 : Nat) := Nat.pow_dvd_pow 2 (by omega)
  exact_mod_cast this
 rw [e2]
 have h1 := Int.emod_nonneg x (show ((2 ^ m : Nat) : Int) ≠ 0 by omega)
 have h2 := Int.emod_lt_of_pos x (show (0 : Int) < ((2 ^ m : Nat) : Int) by omega)
 exact wrap64_eq (by omega) (by omega)
theorem or_nat (a b m : Nat) (hb : b < 2 ^ m) : (2 ^ m * a) ||| b = 2 ^ m * a + b := (Nat.two_pow_add_eq_or_of_lt hb a).symm
theorem or_i64 (X Y : Int) (m : Nat) (hm : m ≤ 64) (hX : X % ((2 ^ m : Nat) : Int) = 0) (hY0 : 0 ≤ Y) (hY : Y < ((2 ^ m : Nat) : Int)) : Go.bits .or .i64 X Y = wrap64 (X + Y) := by
 show IntKind.i64.wrap (((BitVec.ofInt 64 X ||| BitVec.ofInt 64 Y).toNat : Nat) : Int) = _
 rw [BitVec.toNat_or, ofInt_toNat, ofInt_toNat, i64_eq]
 have h64 : ((2 ^ 64 : Nat) : Int) = 18446744073709551616 := by decide
 have hp : (2 : Nat) ^ m ≤ 2 ^ 64 := Nat.pow_le_pow_right (by omega) hm
 have hdvd : ((2 ^ m : Nat) : Int) ∣ ((2 ^ 64 : Nat) : Int) := by
  have : (2 ^ m : Nat) ∣ (2 ^ 64 : Nat) := Nat.pow_dvd_pow 2 hm
  exact_mod_cast this
 have hX' : (X % ((2 ^ 64 : Nat) : Int)) % ((2 ^ m : Nat) : Int) = 0 := by rw [Int.emod_emod_of_dvd _ hdvd]; exact hX
 have hx0 : 0 ≤ X % ((2 ^ 64 : Nat) : Int) := Int.emod_nonneg _ (by decide)
 have hxm : (X % ((2 ^ 64 : Nat) : Int)).toNat % 2 ^ m = 0 := by
  have : (((X % ((2 ^ 64 : Nat) : Int)).toNat % 2 ^ m : Nat) : Int) = 0 := by rw [Int.natCast_emod, Int.toNat_of_nonneg hx0]; exact hX'
  omega
 have e1 : (X % ((2 ^ 64 : Nat) : Int)).toNat = 2 ^ m * ((X % ((2 ^ 64 : Nat) : Int)).toNat / 2 ^ m) := by
  have := Nat.div_add_mod (X % ((2 ^ 64 : Nat) : Int)).toNat (2 ^ m); omega
 have hYlt : Y < ((2 ^ 64 : Nat) : Int) := by
  have : ((2 ^ m : Nat) : Int) ≤ ((2 ^ 64 : Nat) : Int) := by exact_mod_cast hp
  omega
 have e2 : (Y % ((2 ^ 64 : Nat) : Int)).toNat = Y.toNat := by rw [Int.emod_eq_of_lt hY0 hYlt]
 rw [e2]
 rw [e1, or_nat _ _ _ (by omega), ← e1]
 refine wrap64_idem _ _ ?_
 rw [Int.natCast_add, Int.toNat_of_nonneg hx0, Int.toNat_of_nonneg hY0, h64]
 omega
theorem bor_comm (k : IntKind) (X Y : Int) : Go.bits .or k X Y = Go.bits .or k Y X := by
 simp only [Go.bits]; rw [BitVec.or_comm]
theorem or_u64 (X Y : Int) (m : Nat) (hm : m ≤ 64) (hX : X % ((2 ^ m : Nat) : Int) = 0) (hY0 : 0 ≤ Y) (hY : Y < ((2 ^ m : Nat) : Int)) : Go.bits .or .u64 X Y = (X + Y) % 18446744073709551616 := by
 have h1 := or_i64 X Y m hm hX hY0 hY
 have e : Go.bits .or .i64 X Y = wrap64 (((BitVec.ofInt 64 X ||| BitVec.ofInt 64 Y).toNat : Nat) : Int) := by
  show IntKind.i64.wrap (((BitVec.ofInt 64 X ||| BitVec.ofInt 64 Y).toNat : Nat) : Int) = _
  rw [i64_eq]
 have e' : Go.bits .or .u64 X Y = ((((BitVec.ofInt 64 X ||| BitVec.ofInt 64 Y).toNat : Nat) : Int)) % 18446744073709551616 := by
  show IntKind.u64.wrap (((BitVec.ofInt 64 X ||| BitVec.ofInt 64 Y).toNat : Nat) : Int) = _
  rw [u64_eq]
 rw [e'] 
 rw [e] at h1
 unfold wrap64 at h1
 omega
theorem p128 (i : Nat) : ((2 ^ (7 * i) : Nat) : Int) = 128 ^ i := by
 rw [Nat.pow_mul]; norm_cast
theorem pow_pos128 (i : Nat) : (0 : Int) < 128 ^ i := by
 induction i with
 | zero => decide
 | succ i ih => rw [Int.pow_succ]; omega
def U : Nat → Int → List Int
 | 0, u => [u % 256]
 | d + 1, u => if u ≥ 128 then (u % 128 + 128) :: U d (u / 128) else [u % 256]
def S : Nat → Int → List Int
 | 0, x => [x % 128]
 | d + 1, x => if x < -64 then (x % 128 + 128) :: S d (x / 128) else if x > 63 then (x % 128 + 128) :: S d (x / 128) else [x % 128]
def T (f : Nat → Int) : Nat → Nat → Int
 | _, 0 => 0
 | j, m + 1 => f j % 128 + 128 * T f (j + 1) m
theorem T_nonneg (f : Nat → Int) : ∀ m j, 0 ≤ T f j m
 | 0, _ => Int.le_refl _
 | m + 1, j => by unfold T; have := T_nonneg f m (j + 1); omega
theorem T_lt (f : Nat → Int) : ∀ m j, T f j m < 128 ^ m
 | 0, _ => by simp [T]
 | m + 1, j => by unfold T; have := T_lt f m (j + 1); rw [Int.pow_succ]; omega
theorem T_last (f : Nat → Int) : ∀ m j, T f j (m + 1) = T f j m + (f (j + m) % 128) * 128 ^ m
 | 0, j => by simp [T]
 | m + 1, j => by
  rw [T, T_last f m (j + 1), T, show j + 1 + m = j + (m + 1) from by omega, Int.pow_succ]
  rw [Int.mul_add, ← Int.add_assoc]
  congr 1
  rw [Int.mul_comm 128, Int.mul_assoc]
theorem T_congr (f g : Nat → Int) : ∀ m j, (∀ i, j ≤ i → i < j + m → f i = g i) → T f j m = T g j m
 | 0, _, _ => rfl
 | m + 1, j, h => by
  rw [T, T, h j (by omega) (by omega), T_congr f g m (j + 1) (fun i h1 h2 => h i (by omega) (by omega))]
def scan (f : Nat → Int) (lim : Nat) : Nat → Nat → Int × Int
 | 0, _ => (0, 1200)
 | d + 1, i => if i = lim then (0, 1201) else if f i < 128 then ((i : Int) + 1, 0) else scan f lim d (i + 1)
theorem scan_cases (f : Nat → Int) (lim : Nat) : ∀ d i, i ≤ lim → (scan f lim d i = (0, 1200) ∧ (∀ j, i ≤ j → j < i + d → 128 ≤ f j) ∧ i + d ≤ lim) ∨ (scan f lim d i = (0, 1201) ∧ lim < i + d ∧ ∀ j, i ≤ j → j < lim → 128 ≤ f j) ∨ ∃ n : Nat, i ≤ n ∧ n < i + d ∧ n < lim ∧ scan f lim d i = ((n : Int) + 1, 0) ∧ f n < 128 ∧ ∀ j, i ≤ j → j < n → 128 ≤ f j
 | 0, i, h => .inl ⟨rfl, fun j h1 h2 => by omega, by omega⟩
 | d + 1, i, h => by
  by_cases h1 : i = lim
  ·exact .inr (.inl ⟨by rw [scan, if_pos h1], by omega, fun j h2 h3 => by omega⟩)
  ·by_cases h2 : f i < 128
   ·exact .inr (.inr ⟨i, by omega, by omega, by omega, by rw [scan, if_neg h1, if_pos h2], h2, fun j h3 h4 => by omega⟩)
   ·have e : scan f lim (d + 1) i = scan f lim d (i + 1) := by rw [scan, if_neg h1, if_neg h2]
    rw [e]
    rcases scan_cases f lim d (i + 1) (by omega) with ⟨a, b, c⟩ | ⟨a, b, c⟩ | ⟨n, a, b, c, g, k, l⟩
    ·refine .inl ⟨a, fun j h3 h4 => ?_, by omega⟩
     by_cases e : j = i
     ·subst e; omega
     ·exact b j (by omega) (by omega)
    ·refine .inr (.inl ⟨a, by omega, fun j h3 h4 => ?_⟩)
     by_cases e : j = i
     ·subst e; omega
     ·exact c j (by omega) (by omega)
    ·refine .inr (.inr ⟨n, by omega, by omega, c, g, k, fun j h3 h4 => ?_⟩)
     by_cases e : j = i
     ·subst e; omega
     ·exact l j (by omega) (by omega)
theorem scan_ok (f : Nat → Int) (lim : Nat) : ∀ d i n, i ≤ n → n < i + d → n < lim → f n < 128 → (∀ j, i ≤ j → j < n → 128 ≤ f j) → scan f lim d i = ((n : Int) + 1, 0)
 | 0, i, n, h1, h2, _, _, _ => by omega
 | d + 1, i, n, h1, h2, h3, h4, h5 => by
  rw [scan, if_neg (by omega)]
  by_cases e : i = n
  ·subst e; rw [if_pos h4]
  ·rw [if_neg (by have := h5 i (by omega) (by omega); omega)]
   exact scan_ok f lim d (i + 1) n (by omega) (by omega) h3 h4 (fun j h6 h7 => h5 j (by omega) h7)
end Go.Proofs.YtkdoijfjceeblaaDoor.LebMath
namespace Go.Proofs.YtkdoijfjceeblaaDoor.LebFns
open Go Go.RowKit Go.Proofs.YtkdoijfjceeblaaDoorW.PrintWords Go.Proofs.YtkdoijfjceeblaaDoorW.PrintMore Go.Proofs.YtkdoijfjceeblaaDoor.LebMath Go.Proofs.YtkdoijfjceeblaaDoor.F
theorem leb_l0 : ∀ (d : Nat) (u : Int) (acc : List Int) (k : Nat), 0 ≤ u → u < 128 ^ (d + 1) → u < 18446744073709551616 → acc.length + d + 1 ≤ 1000 → d < k → pelorusref12_Leb.l0 k acc u = some (strOfNums (acc ++ U d u))
 | d, u, acc, 0, _, _, _, _, h => by omega
 | 0, u, acc, k + 1, h0, h1, _, h2, h3 => by
  rw [pelorusref12_Leb.l0, if_neg (by simp at h1; omega), if_pos (by omega), U]
 | d + 1, u, acc, k + 1, h0, h1, h4, h2, h3 => by
  rw [pelorusref12_Leb.l0, U]
  have e1 : Int.tmod u 128 = u % 128 := Int.tmod_eq_emod_of_nonneg h0
  have e2 : Int.tdiv u 128 = u / 128 := Int.tdiv_eq_ediv_of_nonneg h0
  by_cases h : u ≥ 128
  ·rw [if_pos h, if_pos (by omega), if_pos h, e1, e2, u64_eq, u64_eq, show u / 128 % 18446744073709551616 = u / 128 from by omega]
   rw [leb_l0 d (u / 128) _ k (by omega) (by rw [Int.pow_succ] at h1; omega) (by omega) (by simp; omega) (by omega)]
   rw [show (u % 128 + 128) % 18446744073709551616 % 256 = u % 128 + 128 from by omega, List.append_assoc]
   rfl
  ·rw [if_neg h, if_pos (by omega), if_neg h]
theorem pow10 : (18446744073709551616 : Int) < 128 ^ (9 + 1) := by decide
theorem lebref_ev (x : Int) : Ev (fun k => pelorusref12_Leb.f k x) (strOfNums (U 9 (x % 18446744073709551616))) := by
 refine ⟨10, fun k hk => ?_⟩
 show pelorusref12_Leb.l0 k [] (IntKind.u64.wrap x) = _
 rw [u64_eq, leb_l0 9 _ [] k (by omega) (by have := pow10; omega) (by omega) (by simp) (by omega)]
 rfl
def mo (bits : Int) : Nat := if bits = 32 then 5 else 10
def byt (s : ByteArray) (at_ : Int) (i : Nat) : Int := bt s (at_ + i)
theorem byt_range (s : ByteArray) (a : Int) (i : Nat) : 0 ≤ byt s a i ∧ byt s a i < 256 := by have := bt_range s (a + i); unfold byt; omega
def Fit (s : ByteArray) (a bits : Int) : Prop := (bits = 32 ∨ bits = 64) ∧ 0 ≤ a ∧ a ≤ (s.size : Int) ∧ s.size ≤ 140737488355328
theorem most_eq {bits : Int} (h : bits = 32 ∨ bits = 64) : leb_most.f bits = some (mo bits : Int) := by
 rcases h with rfl | rfl <;> decide +kernel
theorem parts_l0 (s : ByteArray) (a bits : Int) (hf : Fit s a bits) : ∀ (d i k : Nat), i + d = mo bits → i ≤ ((s.size : Int) - a).toNat → d < k → leb_parts.l0 k s a bits (i : Int) = some (scan (byt s a) ((s.size : Int) - a).toNat d i)
 | d, i, 0, _, _, h => by omega
 | 0, i, k + 1, h1, h2, h3 => by
  rw [leb_parts.l0, most_eq hf.1, Option.bind_some, if_neg (by omega), scan]
 | d + 1, i, k + 1, h1, h2, h3 => by
  obtain ⟨hb, h0, hs, hz⟩ := hf
  have hm : mo bits ≤ 10 := by unfold mo; split <;> omega
  have hw : wrap64 (a + i) = a + i := wrap64_eq (by omega) (by omega)
  have hw1 : wrap64 ((i : Int) + 1) = ((i + 1 : Nat) : Int) := by rw [wrap64_eq (by omega) (by omega)]; omega
  rw [leb_parts.l0, most_eq hb, Option.bind_some, if_pos (by omega), hw, hw1, scan]
  by_cases e : i = ((s.size : Int) - a).toNat
  ·rw [if_pos (by omega), if_pos e]
  ·rw [if_neg (by omega), if_neg e, if_pos (by omega), if_pos (by omega)]
   show (if byt s a i < 128 then _ else _) = _
   by_cases c : byt s a i < 128
   ·rw [if_pos c, if_pos c]; simp
   ·rw [if_neg c, if_neg c]
    exact parts_l0 s a bits ⟨hb, h0, hs, hz⟩ d (i + 1) k (by omega) (by omega) (by omega)
theorem parts_fit (s : ByteArray) (a bits : Int) (hf : Fit s a bits) : Ev (fun k => leb_parts.f k s a bits) (scan (byt s a) ((s.size : Int) - a).toNat (mo bits) 0) := by
 refine ⟨13, fun k hk => ?_⟩
 obtain ⟨k, rfl⟩ : ∃ m, k = m + 2 := ⟨k - 2, by omega⟩
 have hm : mo bits ≤ 10 := by unfold mo; split <;> omega
 have hl := parts_l0 s a bits hf (mo bits) 0 (k + 1) (by omega) (by omega) (by omega)
 obtain ⟨hb, h0, hs, hz⟩ := hf
 have hj : leb_parts.j0 (k + 2) s a bits (decide (a > (s.size : Int))) = some (scan (byt s a) ((s.size : Int) - a).toNat (mo bits) 0) := by
  rw [leb_parts.j0, if_neg (by simp; omega)]; exact hl
 show leb_parts.f (k + 2) s a bits = _
 unfold leb_parts.f
 rcases hb with rfl | rfl
 ·rw [if_pos rfl, if_neg (by omega), hj]
 ·rw [if_neg (by omega), if_pos rfl, if_neg (by omega), hj]
theorem parts_not (s : ByteArray) (a bits : Int) (hz : s.size ≤ 140737488355328) (hf : ¬ Fit s a bits) : Ev (fun k => leb_parts.f k s a bits) (0, 1200) := by
 refine ⟨13, fun k hk => ?_⟩
 obtain ⟨k, rfl⟩ : ∃ m, k = m + 2 := ⟨k - 2, by omega⟩
 have hj : leb_parts.j0 (k + 2) s a bits true = some (0, 1200) := by rw [leb_parts.j0, if_pos rfl]
 have hj' : ¬ a < 0 → (bits = 32 ∨ bits = 64) → leb_parts.j0 (k + 2) s a bits (decide (a > (s.size : Int))) = some (0, 1200) := by
  intro h1 h2
  rw [show decide (a > (s.size : Int)) = true from decide_eq_true (by
   have : ¬ (0 ≤ a ∧ a ≤ (s.size : Int)) := fun h => hf ⟨h2, h.1, h.2, hz⟩
   omega)]
  exact hj
 show leb_parts.f (k + 2) s a bits = _
 unfold leb_parts.f
 by_cases h1 : bits = 32
 ·rw [if_pos h1]; by_cases h : a < 0
  ·rw [if_pos h, hj]
  ·rw [if_neg h, hj' h (.inl h1)]
 ·rw [if_neg h1]
  by_cases h2 : bits = 64
  ·rw [if_pos h2]; by_cases h : a < 0
   ·rw [if_pos h, hj]
   ·rw [if_neg h, hj' h (.inr h2)]
  ·rw [if_neg h2, hj]
def sc (a : Int) (p : Int × Int) : Int × Int := if p.2 = 0 then (a + p.1 - 1, 0) else p
theorem rparts_l0 (s : ByteArray) (a bits : Int) (hf : Fit s a bits) : ∀ (d i k : Nat), i + d = mo bits → i ≤ ((s.size : Int) - a).toNat → d < k → pelorusref12_parts.l0 k s a (mo bits) (i : Int) = some (sc a (scan (byt s a) ((s.size : Int) - a).toNat d i))
 | d, i, 0, _, _, h => by omega
 | 0, i, k + 1, h1, h2, h3 => by
  rw [pelorusref12_parts.l0, if_neg (by omega), scan]; rfl
 | d + 1, i, k + 1, h1, h2, h3 => by
  obtain ⟨hb, h0, hs, hz⟩ := hf
  have hm : mo bits ≤ 10 := by unfold mo; split <;> omega
  have hw : wrap64 (a + i) = a + i := wrap64_eq (by omega) (by omega)
  have hw1 : wrap64 ((i : Int) + 1) = ((i + 1 : Nat) : Int) := by rw [wrap64_eq (by omega) (by omega)]; omega
  rw [pelorusref12_parts.l0, if_pos (by omega), hw, hw1, scan]
  by_cases e : i = ((s.size : Int) - a).toNat
  ·rw [if_pos (by omega), if_pos e]; rfl
  ·rw [if_neg (by omega), if_neg e, if_pos (by omega), if_pos (by omega)]
   show (if byt s a i < 128 then _ else _) = _
   by_cases c : byt s a i < 128
   ·rw [if_pos c, if_pos c]; simp [sc]; omega
   ·rw [if_neg c, if_neg c]
    exact rparts_l0 s a bits ⟨hb, h0, hs, hz⟩ d (i + 1) k (by omega) (by omega) (by omega)
theorem rparts_fit (s : ByteArray) (a bits : Int) (hf : Fit s a bits) : Ev (fun k => pelorusref12_parts.f k s a bits) (sc a (scan (byt s a) ((s.size : Int) - a).toNat (mo bits) 0)) := by
 refine ⟨13, fun k hk => ?_⟩
 obtain ⟨k, rfl⟩ : ∃ m, k = m + 2 := ⟨k - 2, by omega⟩
 have hm : mo bits ≤ 10 := by unfold mo; split <;> omega
 have hl := rparts_l0 s a bits hf (mo bits) 0 (k + 1) (by omega) (by omega) (by omega)
 obtain ⟨hb, h0, hs, hz⟩ := hf
 have hmo : wrap64 (Int.tdiv (wrap64 (bits + 6)) 7) = (mo bits : Int) := by rcases hb with rfl | rfl <;> decide +kernel
 have hj : pelorusref12_parts.j0 (k + 2) s a bits (decide (a > (s.size : Int))) = some (sc a (scan (byt s a) ((s.size : Int) - a).toNat (mo bits) 0)) := by
  rw [pelorusref12_parts.j0, if_neg (by simp; omega), hmo]; exact hl
 show pelorusref12_parts.f (k + 2) s a bits = _
 unfold pelorusref12_parts.f
 rcases hb with rfl | rfl
 ·rw [if_pos rfl, if_neg (by omega), hj]
 ·rw [if_neg (by omega), if_pos rfl, if_neg (by omega), hj]
theorem rparts_not (s : ByteArray) (a bits : Int) (hz : s.size ≤ 140737488355328) (hf : ¬ Fit s a bits) : Ev (fun k => pelorusref12_parts.f k s a bits) (0, 1200) := by
 refine ⟨13, fun k hk => ?_⟩
 obtain ⟨k, rfl⟩ : ∃ m, k = m + 2 := ⟨k - 2, by omega⟩
 have hj : pelorusref12_parts.j0 (k + 2) s a bits true = some (0, 1200) := by rw [pelorusref12_parts.j0, if_pos rfl]
 have hj' : ¬ a < 0 → (bits = 32 ∨ bits = 64) → pelorusref12_parts.j0 (k + 2) s a bits (decide (a > (s.size : Int))) = some (0, 1200) := by
  intro h1 h2
  rw [show decide (a > (s.size : Int)) = true from decide_eq_true (by
   have : ¬ (0 ≤ a ∧ a ≤ (s.size : Int)) := fun h => hf ⟨h2, h.1, h.2, hz⟩
   omega)]
  exact hj
 show pelorusref12_parts.f (k + 2) s a bits = _
 unfold pelorusref12_parts.f
 by_cases h1 : bits = 32
 ·rw [if_pos h1]; by_cases h : a < 0
  ·rw [if_pos h, hj]
  ·rw [if_neg h, hj' h (.inl h1)]
 ·rw [if_neg h1]
  by_cases h2 : bits = 64
  ·rw [if_pos h2]; by_cases h : a < 0
   ·rw [if_pos h, hj]
   ·rw [if_neg h, hj' h (.inr h2)]
  ·rw [if_neg h2, hj]
end Go.Proofs.YtkdoijfjceeblaaDoor.LebFns
namespace Go.Proofs.YtkdoijfjceeblaaDoor.LebGets
open Go Go.RowKit Go.Proofs.YtkdoijfjceeblaaDoorW.PrintWords Go.Proofs.YtkdoijfjceeblaaDoorW.PrintMore Go.Proofs.YtkdoijfjceeblaaDoor.LebMath Go.Proofs.YtkdoijfjceeblaaDoor.LebFns Go.Proofs.YtkdoijfjceeblaaDoor.F
theorem pow_le9 {i : Nat} (h : i ≤ 9) : (128 : Int) ^ i ≤ 9223372036854775808 := by
 have : (128 : Nat) ^ i ≤ 128 ^ 9 := Nat.pow_le_pow_right (by omega) h
 have e : ((128 ^ i : Nat) : Int) ≤ ((128 ^ 9 : Nat) : Int) := by exact_mod_cast this
 have e9 : ((128 ^ 9 : Nat) : Int) = 9223372036854775808 := by decide
 rw [e9] at e
 have : ((128 ^ i : Nat) : Int) = (128 : Int) ^ i := by norm_cast
 omega
theorem T_small (f : Nat → Int) {i : Nat} (h : i ≤ 9) (j : Nat) : T f j i < 9223372036854775808 := by
 have := T_lt f i j; have := pow_le9 h; omega
theorem mod_wrap (x : Int) (m : Nat) (hm : m ≤ 64) : wrap64 x % ((2 ^ m : Nat) : Int) = x % ((2 ^ m : Nat) : Int) := by
 obtain ⟨q, hq⟩ := wrap64_mod x
 have hd : ((2 ^ m : Nat) : Int) ∣ 18446744073709551616 := by
  have : (2 ^ m : Nat) ∣ (2 ^ 64 : Nat) := Nat.pow_dvd_pow 2 hm
  have h2 : ((2 ^ 64 : Nat) : Int) = 18446744073709551616 := by decide
  rw [← h2]; exact_mod_cast this
 obtain ⟨c, hc⟩ := hd
 rw [hq, hc, Int.mul_assoc, Int.add_mul_emod_self_left]
theorem mul_pow_mod (d : Int) (i : Nat) : (d * 128 ^ i) % ((2 ^ (7 * i) : Nat) : Int) = 0 := by
 rw [p128]; exact Int.mul_emod_left _ _
theorem u64_mod (x : Int) (m : Nat) (hm : m ≤ 64) : (x % 18446744073709551616) % ((2 ^ m : Nat) : Int) = x % ((2 ^ m : Nat) : Int) := by
 refine Int.emod_emod_of_dvd _ ?_
 have : (2 ^ m : Nat) ∣ (2 ^ 64 : Nat) := Nat.pow_dvd_pow 2 hm
 have h2 : ((2 ^ 64 : Nat) : Int) = 18446744073709551616 := by decide
 rw [← h2]; exact_mod_cast this
theorem shl7 (k : IntKind) (hk : k.bits = 64) (d : Int) (i : Nat) (hi : i ≤ 9) : shl k d (7 * (i : Int)) = k.wrap (d * 128 ^ i) := by
 unfold shl
 rw [show (7 * (i : Int)).toNat = 7 * i from by omega, hk, Nat.min_eq_left (by omega)]
 have : (2 : Int) ^ (7 * i) = 128 ^ i := by have := p128 i; rw [← this]; norm_cast
 rw [this]
def hw (bits : Int) : Int := if bits = 32 then 16 else 2
def gres (s : ByteArray) (a bits : Int) (n : Nat) : Int × Int × Int :=
 if n = mo bits ∧ byt s a (n - 1) / hw bits ≠ 0 then (0, 0, 1200) else (wrap64 (T (byt s a) 0 n), a + n, 0)
theorem get_end (s : ByteArray) (a bits : Int) (hf : Fit s a bits) (n : Nat) (h1 : 1 ≤ n) (h2 : n ≤ mo bits) (h3 : a + n ≤ s.size) (x : Int) (hx : wrap64 x = wrap64 (T (byt s a) 0 n)) :
  ((leb_most.f bits).bind fun t104 => (if (n : Int) = t104 then (if 0 ≤ (wrap64 ((wrap64 (a + n)) - 1)) then (if (wrap64 ((wrap64 (a + n)) - 1)) < (s.size : Int) then (if 0 ≤ (wrap64 (bits - (wrap64 (7 * (wrap64 ((n : Int) - 1)))))) then (if (shr .u8 (bt s (wrap64 ((wrap64 (a + n)) - 1))) (wrap64 (bits - (wrap64 (7 * (wrap64 ((n : Int) - 1))))))) = 0 then (some (wrap64 (x), wrap64 (a + n), (0 : Int))) else (some (0, 0, 1200))) else (none)) else (none)) else (none)) else (some (wrap64 (x), wrap64 (a + n), 0)))) = some (gres s a bits n) := by
 obtain ⟨hb, h0, hs, hz⟩ := hf
 have hm : mo bits ≤ 10 := by unfold mo; split <;> omega
 have w1 : wrap64 (a + n) = a + n := wrap64_eq (by omega) (by omega)
 have w2 : wrap64 (a + n - 1) = a + n - 1 := wrap64_eq (by omega) (by omega)
 have w3 : wrap64 ((n : Int) - 1) = n - 1 := wrap64_eq (by omega) (by omega)
 have w4 : wrap64 (7 * ((n : Int) - 1)) = 7 * (n - 1) := wrap64_eq (by omega) (by omega)
 rw [most_eq hb, Option.bind_some, w1, w2, w3, w4, hx]
 unfold gres
 by_cases e : n = mo bits
 ·have hbt : bt s (a + n - 1) = byt s a (n - 1) := by unfold byt; congr 1; omega
  have w5 : wrap64 (bits - 7 * ((n : Int) - 1)) = bits - 7 * ((n : Int) - 1) := wrap64_eq (by rcases hb with rfl | rfl <;> omega) (by rcases hb with rfl | rfl <;> omega)
  have hsh : shr .u8 (byt s a (n - 1)) (bits - 7 * ((n : Int) - 1)) = byt s a (n - 1) / hw bits := by
   rcases hb with rfl | rfl
   ·have : n = 5 := e
    subst this; rfl
   ·have : n = 10 := e
    subst this; rfl
  have hp : 0 ≤ bits - 7 * ((n : Int) - 1) := by
   rcases hb with rfl | rfl
   ·have : n = 5 := e
    omega
   ·have : n = 10 := e
    omega
  rw [if_pos (by omega), if_pos (by omega), if_pos (by omega), hbt, w5, if_pos hp, hsh]
  by_cases c : byt s a (n - 1) / hw bits = 0
  ·rw [if_pos c, if_neg (fun h => h.2 c)]
  ·rw [if_neg c, if_pos ⟨e, c⟩]
 ·rw [if_neg (by omega), if_neg (fun h => e h.1)]
theorem get_l0 (s : ByteArray) (a bits : Int) (hf : Fit s a bits) (n : Nat) (h1 : 1 ≤ n) (h2 : n ≤ mo bits) (h3 : a + n ≤ s.size) : ∀ (d i k : Nat), i + d = n → d < k →
  leb_Get.l0 k s a bits n (T (byt s a) 0 i % 18446744073709551616) n i = some (gres s a bits n)
 | d, i, 0, _, h => by omega
 | 0, i, k + 1, hi, hk => by
  obtain rfl : i = n := by omega
  rw [leb_Get.l0, if_neg (by omega)]
  exact get_end s a bits hf i h1 h2 h3 _ (wrap64_idem _ _ (by omega))
 | d + 1, i, k + 1, hi, hk => by
  have hf0 := hf
  obtain ⟨hb, h0, hs, hz⟩ := hf
  have hm : mo bits ≤ 10 := by unfold mo; split <;> omega
  have w1 : wrap64 (a + i) = a + i := wrap64_eq (by omega) (by omega)
  have w2 : wrap64 (7 * (i : Int)) = 7 * i := wrap64_eq (by omega) (by omega)
  have w3 : wrap64 ((i : Int) + 1) = ((i + 1 : Nat) : Int) := by rw [wrap64_eq (by omega) (by omega)]; omega
  have hr := byt_range s a i
  have hT := T_small (byt s a) (i := i) (by omega) 0
  have hT0 := T_nonneg (byt s a) i 0
  rw [leb_Get.l0, if_pos (by omega), w1, if_pos (by omega), if_pos (by omega), w2, if_pos (by omega), w3]
  rw [show bt s (a + i) = byt s a i from rfl, and_u8 _ hr.1 hr.2, u64_eq, show byt s a i % 128 % 18446744073709551616 = byt s a i % 128 from by omega]
  rw [shl7 .u64 rfl _ i (by omega), u64_eq, show T (byt s a) 0 i % 18446744073709551616 = T (byt s a) 0 i from by omega, bor_comm]
  rw [or_u64 _ _ (7 * i) (by omega) (by rw [u64_mod _ _ (by omega)]; exact mul_pow_mod _ _) hT0 (by rw [p128]; exact T_lt _ _ _)]
  have e : (byt s a i % 128 * 128 ^ i % 18446744073709551616 + T (byt s a) 0 i) % 18446744073709551616 = T (byt s a) 0 (i + 1) % 18446744073709551616 := by
   rw [T_last, Nat.zero_add]; omega
  rw [e]
  exact get_l0 s a bits hf0 n h1 h2 h3 d (i + 1) k (by omega) (by omega)
instance (s : ByteArray) (a bits : Int) : Decidable (Fit s a bits) := by unfold Fit; exact inferInstance
def G (s : ByteArray) (a bits : Int) : Int × Int × Int :=
 if Fit s a bits then
  (if (scan (byt s a) ((s.size : Int) - a).toNat (mo bits) 0).2 = 0 then gres s a bits (scan (byt s a) ((s.size : Int) - a).toNat (mo bits) 0).1.toNat else (0, 0, (scan (byt s a) ((s.size : Int) - a).toNat (mo bits) 0).2))
 else (0, 0, 1200)
theorem scan_or (f : Nat → Int) (lim d : Nat) : (∃ n : Nat, 1 ≤ n ∧ n ≤ d ∧ n ≤ lim ∧ scan f lim d 0 = ((n : Int), 0) ∧ f (n - 1) < 128 ∧ ∀ j, j < n - 1 → 128 ≤ f j) ∨ (scan f lim d 0).2 ≠ 0 ∧ (scan f lim d 0).1 = 0 := by
 rcases scan_cases f lim d 0 (by omega) with ⟨h, _⟩ | ⟨h, _⟩ | ⟨n, _, h2, h3, h4, h5, h6⟩
 ·right; rw [h]; exact ⟨by decide, rfl⟩
 ·right; rw [h]; exact ⟨by decide, rfl⟩
 ·exact .inl ⟨n + 1, by omega, by omega, by omega, by rw [h4]; simp, by simpa using h5, fun j hj => h6 j (by omega) (by omega)⟩
theorem G_ok {s : ByteArray} {a bits : Int} (hf : Fit s a bits) {n : Nat} (h : scan (byt s a) ((s.size : Int) - a).toNat (mo bits) 0 = ((n : Int), 0)) : G s a bits = gres s a bits n := by
 unfold G; rw [if_pos hf]; simp [h]
theorem G_err {s : ByteArray} {a bits : Int} (hf : Fit s a bits) (h : (scan (byt s a) ((s.size : Int) - a).toNat (mo bits) 0).2 ≠ 0) : G s a bits = (0, 0, (scan (byt s a) ((s.size : Int) - a).toNat (mo bits) 0).2) := by
 unfold G; rw [if_pos hf]; simp [h]
theorem G_not {s : ByteArray} {a bits : Int} (hf : ¬ Fit s a bits) : G s a bits = (0, 0, 1200) := by
 unfold G; rw [if_neg hf]
theorem get_ev (s : ByteArray) (a bits : Int) (hz : s.size ≤ 140737488355328) : Ev (fun k => leb_Get.f k s a bits) (G s a bits) := by
 by_cases hf : Fit s a bits
 ·refine Ev.bind (parts_fit s a bits hf) ?_
  rcases scan_or (byt s a) ((s.size : Int) - a).toNat (mo bits) with ⟨n, h1, h2, h3, h4, _, _⟩ | ⟨h, _⟩
  ·rw [G_ok hf h4, h4]
   refine ⟨n + 1, fun k hk => ?_⟩
   have hs := hf.2.2.1
   have h0 := hf.2.1
   have := get_l0 s a bits hf n h1 h2 (by omega) n 0 k (by omega) (by omega)
   simpa [T] using this
  ·rw [G_err hf h]
   refine ⟨0, fun k _ => ?_⟩
   simp [h]
 ·rw [G_not hf]
  refine Ev.bind (parts_not s a bits hz hf) ⟨0, fun k _ => rfl⟩
theorem unleb_l0 (s : ByteArray) (a bits : Int) (hf : Fit s a bits) (n : Nat) (h3 : a + n ≤ s.size) (hn : n ≤ 10) : ∀ (j m k : Nat), j + m = n → j < k →
  pelorusref12_Unleb.l0 k s a (a + n - 1) (wrap64 (T (byt s a) j m)) (a + j - 1) = some (wrap64 (T (byt s a) 0 n), a + n, 0)
 | j, m, 0, _, h => by omega
 | 0, m, k + 1, hj, hk => by
  obtain rfl : m = n := by omega
  obtain ⟨hb, h0, hs, hz⟩ := hf
  rw [pelorusref12_Unleb.l0, if_neg (by omega), wrap64_eq (x := a + m - 1 + 1) (by omega) (by omega), show a + (m : Int) - 1 + 1 = a + m from by omega]
 | j + 1, m, k + 1, hj, hk => by
  have hf0 := hf
  obtain ⟨hb, h0, hs, hz⟩ := hf
  have hr := byt_range s a j
  have e : a + ((j + 1 : Nat) : Int) - 1 = a + j := by omega
  rw [e, pelorusref12_Unleb.l0, if_pos (by omega), if_pos (by omega), if_pos (by omega), show bt s (a + j) = byt s a j from rfl, and_u8 _ hr.1 hr.2]
  rw [wrap64_eq (x := byt s a j % 128) (by omega) (by omega), or_i64 _ _ 7 (by omega) (by rw [mod_wrap _ _ (by omega)]; show _ % 128 = 0; omega) (by omega) (by show _ < 128; omega)]
  have e2 : wrap64 (wrap64 (wrap64 (T (byt s a) (j + 1) m) * 128) + byt s a j % 128) = wrap64 (T (byt s a) j (m + 1)) := by
   refine wrap64_idem _ _ ?_
   rw [T]
   obtain ⟨q, hq⟩ := wrap64_mod (wrap64 (T (byt s a) (j + 1) m) * 128)
   obtain ⟨q', hq'⟩ := wrap64_mod (T (byt s a) (j + 1) m)
   rw [hq, hq']
   omega
  rw [e2, wrap64_eq (x := a + j - 1) (by omega) (by omega)]
  exact unleb_l0 s a bits hf0 n h3 hn j (m + 1) k (by omega) (by omega)
theorem unleb_j0 (s : ByteArray) (a bits : Int) (hf : Fit s a bits) (n : Nat) (h1 : 1 ≤ n) (h3 : a + n ≤ s.size) (hn : n ≤ 10) (k : Nat) (hk : 13 ≤ k) : pelorusref12_Unleb.j0 k s a (a + n - 1) false = some (wrap64 (T (byt s a) 0 n), a + n, 0) := by
 obtain ⟨k, rfl⟩ : ∃ m, k = m + 1 := ⟨k - 1, by omega⟩
 rw [pelorusref12_Unleb.j0, if_neg (by simp)]
 have := unleb_l0 s a bits hf n h3 hn n 0 k (by omega) (by omega)
 rw [T, show wrap64 0 = 0 from by decide +kernel] at this
 exact this
theorem unleb_ev (s : ByteArray) (a bits : Int) (hz : s.size ≤ 140737488355328) : Ev (fun k => pelorusref12_Unleb.f k s a bits) (G s a bits) := by
 by_cases hf : Fit s a bits
 ·refine Ev.bind (rparts_fit s a bits hf) ?_
  rcases scan_or (byt s a) ((s.size : Int) - a).toNat (mo bits) with ⟨n, h1, h2, h3, h4, h5, _⟩ | ⟨h, _⟩
  ·rw [G_ok hf h4, h4]
   refine ⟨13, fun k hk => ?_⟩
   have hf0 := hf
   obtain ⟨hb, h0, hs, _⟩ := hf
   have hm : mo bits ≤ 10 := by unfold mo; split <;> omega
   have hmo : wrap64 (Int.tdiv (wrap64 (bits + 6)) 7) = (mo bits : Int) := by rcases hb with rfl | rfl <;> decide +kernel
   have hn : a + n ≤ s.size := by omega
   have hj := unleb_j0 s a bits hf0 n h1 hn (by omega) k hk
   simp only [sc, if_true]
   rw [hmo, wrap64_eq (x := a + n - 1 - a) (by omega) (by omega), wrap64_eq (x := (mo bits : Int) - 1) (by omega) (by omega)]
   unfold gres
   by_cases e : n = mo bits
   ·have hbt : bt s (a + n - 1) = byt s a (n - 1) := by unfold byt; congr 1; omega
    have hr := byt_range s a (n - 1)
    have ht : 0 ≤ Int.tmod bits 7 := by rcases hb with rfl | rfl <;> decide
    have hsh : shr .i64 (byt s a (n - 1)) (Int.tmod bits 7) = byt s a (n - 1) / hw bits := by rcases hb with rfl | rfl <;> rfl
    rw [if_pos (by omega), if_pos (by omega), if_pos (by omega), if_pos ht, hbt, wrap64_eq (x := byt s a (n - 1)) (by omega) (by omega), hsh]
    by_cases c : byt s a (n - 1) / hw bits = 0
    ·rw [if_neg (fun h => h.2 c), c]; exact hj
    ·rw [if_pos ⟨e, c⟩]
     obtain ⟨k, rfl⟩ : ∃ m, k = m + 1 := ⟨k - 1, by omega⟩
     rw [show (byt s a (n - 1) / hw bits != 0) = true from bne_iff_ne.2 c, pelorusref12_Unleb.j0, if_pos rfl]
   ·rw [if_neg (by omega), if_neg (fun h => e h.1)]; exact hj
  ·rw [G_err hf h]
   refine ⟨0, fun k _ => ?_⟩
   simp [h, sc]
 ·rw [G_not hf]
  refine Ev.bind (rparts_not s a bits hz hf) ⟨0, fun k _ => rfl⟩
end Go.Proofs.YtkdoijfjceeblaaDoor.LebGets
namespace Go.Proofs.YtkdoijfjceeblaaDoor.LebGetS
open Go Go.RowKit Go.Proofs.YtkdoijfjceeblaaDoorW.PrintWords Go.Proofs.YtkdoijfjceeblaaDoorW.PrintMore Go.Proofs.YtkdoijfjceeblaaDoor.LebMath Go.Proofs.YtkdoijfjceeblaaDoor.LebFns Go.Proofs.YtkdoijfjceeblaaDoor.LebGets Go.Proofs.YtkdoijfjceeblaaDoor.F
def hs (bits : Int) : Int := if bits = 32 then 8 else 1
def hm (bits : Int) : Int := if bits = 32 then 15 else 127
def sg (s : ByteArray) (a : Int) (n : Nat) : Int := if byt s a (n - 1) / 64 % 2 = 1 then 128 ^ n else 0
def sres (s : ByteArray) (a bits : Int) (n : Nat) : Int × Int × Int :=
 if n = mo bits ∧ byt s a (n - 1) / hs bits ≠ 0 ∧ byt s a (n - 1) / hs bits ≠ hm bits then (0, 0, 1200) else (wrap64 (T (byt s a) 0 n - sg s a n), a + n, 0)
def GS (s : ByteArray) (a bits : Int) : Int × Int × Int :=
 if Fit s a bits then
  (if (scan (byt s a) ((s.size : Int) - a).toNat (mo bits) 0).2 = 0 then sres s a bits (scan (byt s a) ((s.size : Int) - a).toNat (mo bits) 0).1.toNat else (0, 0, (scan (byt s a) ((s.size : Int) - a).toNat (mo bits) 0).2))
 else (0, 0, 1200)
theorem GS_ok {s : ByteArray} {a bits : Int} (hf : Fit s a bits) {n : Nat} (h : scan (byt s a) ((s.size : Int) - a).toNat (mo bits) 0 = ((n : Int), 0)) : GS s a bits = sres s a bits n := by
 unfold GS; rw [if_pos hf]; simp [h]
theorem GS_err {s : ByteArray} {a bits : Int} (hf : Fit s a bits) (h : (scan (byt s a) ((s.size : Int) - a).toNat (mo bits) 0).2 ≠ 0) : GS s a bits = (0, 0, (scan (byt s a) ((s.size : Int) - a).toNat (mo bits) 0).2) := by
 unfold GS; rw [if_pos hf]; simp [h]
theorem GS_not {s : ByteArray} {a bits : Int} (hf : ¬ Fit s a bits) : GS s a bits = (0, 0, 1200) := by
 unfold GS; rw [if_neg hf]
theorem and64 (b : Int) (h0 : 0 ≤ b) (h1 : b < 256) : Go.bits .and .i64 b 64 = b / 64 % 2 * 64 := by
 have h : ∀ c : Fin 256, Go.bits .and .i64 (c.val : Int) 64 = (c.val : Int) / 64 % 2 * 64 := by decide +kernel
 have := h ⟨b.toNat, by omega⟩
 simp only [Int.toNat_of_nonneg h0] at this
 exact this
theorem pow_big {n : Nat} (h : n = 10) : (128 : Int) ^ n % 18446744073709551616 = 0 := by subst h; decide
theorem gets_j2 (s : ByteArray) (a bits : Int) (hf : Fit s a bits) (n : Nat) (h1 : 1 ≤ n) (h2 : n ≤ mo bits) (h3 : a + n ≤ s.size) (x : Int) (hx : x = wrap64 (T (byt s a) 0 n - sg s a n)) (k : Nat) :
  leb_GetSigned.j2 (k + 1) a bits n x (byt s a (n - 1)) = some (sres s a bits n) := by
 obtain ⟨hb, h0, hs', hz⟩ := hf
 have hm' : mo bits ≤ 10 := by unfold mo; split <;> omega
 have hr := byt_range s a (n - 1)
 rw [leb_GetSigned.j2, most_eq hb, Option.bind_some]
 have w1 : wrap64 (a + n) = a + n := wrap64_eq (by omega) (by omega)
 have w3 : wrap64 ((n : Int) - 1) = n - 1 := wrap64_eq (by omega) (by omega)
 have w4 : wrap64 (7 * ((n : Int) - 1)) = 7 * (n - 1) := wrap64_eq (by omega) (by omega)
 have w5 : wrap64 (bits - 7 * ((n : Int) - 1)) = bits - 7 * ((n : Int) - 1) := wrap64_eq (by rcases hb with rfl | rfl <;> omega) (by rcases hb with rfl | rfl <;> omega)
 have w6 : wrap64 (bits - 7 * ((n : Int) - 1) - 1) = bits - 7 * ((n : Int) - 1) - 1 := wrap64_eq (by rcases hb with rfl | rfl <;> omega) (by rcases hb with rfl | rfl <;> omega)
 have w7 : wrap64 (8 - (bits - 7 * ((n : Int) - 1))) = 8 - (bits - 7 * ((n : Int) - 1)) := wrap64_eq (by rcases hb with rfl | rfl <;> omega) (by rcases hb with rfl | rfl <;> omega)
 rw [w3, w4, w5, w6, w7, w1, hx]
 unfold sres
 by_cases e : n = mo bits
 ·have hsh : shr .i64 (byt s a (n - 1)) (bits - 7 * ((n : Int) - 1) - 1) = byt s a (n - 1) / hs bits := by
   rcases hb with rfl | rfl
   ·have : n = 5 := e
    subst this; rfl
   ·have : n = 10 := e
    subst this; rfl
  have hsl : wrap64 (shl .i64 1 (8 - (bits - 7 * ((n : Int) - 1))) - 1) = hm bits := by
   rcases hb with rfl | rfl
   ·have : n = 5 := e
    subst this; decide +kernel
   ·have : n = 10 := e
    subst this; decide +kernel
  have hp : 0 ≤ bits - 7 * ((n : Int) - 1) - 1 ∧ 0 ≤ 8 - (bits - 7 * ((n : Int) - 1)) := by
   rcases hb with rfl | rfl
   ·have : n = 5 := e
    omega
   ·have : n = 10 := e
    omega
  rw [if_pos (by omega), if_pos hp.1, hsh, if_pos hp.2, hsl]
  by_cases c : byt s a (n - 1) / hs bits = 0
  ·rw [if_pos c, if_neg (fun h => h.2.1 c)]
  ·rw [if_neg c]
   by_cases c2 : byt s a (n - 1) / hs bits = hm bits
   ·rw [if_pos c2, if_neg (fun h => h.2.2 c2)]
   ·rw [if_neg c2, if_pos ⟨e, c, c2⟩]
 ·rw [if_neg (by omega), if_neg (fun h => e h.1)]
theorem gets_end (s : ByteArray) (a bits : Int) (hf : Fit s a bits) (n : Nat) (h1 : 1 ≤ n) (h2 : n ≤ mo bits) (h3 : a + n ≤ s.size) (k : Nat) :
  leb_GetSigned.l0 (k + 3) s a bits n (wrap64 (T (byt s a) 0 n)) n n = some (sres s a bits n) := by
 have hf0 := hf
 obtain ⟨hb, h0, hs', hz⟩ := hf
 have hm' : mo bits ≤ 10 := by unfold mo; split <;> omega
 have hr := byt_range s a (n - 1)
 have hbt : bt s (a + n - 1) = byt s a (n - 1) := by unfold byt; congr 1; omega
 have w1 : wrap64 (a + n) = a + n := wrap64_eq (by omega) (by omega)
 have w2 : wrap64 (a + n - 1) = a + n - 1 := wrap64_eq (by omega) (by omega)
 have w3 : wrap64 (7 * (n : Int)) = 7 * n := wrap64_eq (by omega) (by omega)
 rw [leb_GetSigned.l0, if_neg (by omega), w1, w2, if_pos (by omega), if_pos (by omega), hbt, wrap64_eq (x := byt s a (n - 1)) (by omega) (by omega), and64 _ hr.1 hr.2, w3]
 by_cases c : byt s a (n - 1) / 64 % 2 = 1
 ·rw [if_neg (by omega), leb_GetSigned.j1]
  by_cases d : 7 * (n : Int) < 64
  ·rw [if_pos (decide_eq_true d), w3, if_pos (by omega), shl7 .i64 rfl _ n (by omega), i64_eq]
   have hp := pow_le9 (i := n) (by omega)
   have hp0 := pow_pos128 n
   have ht0 := T_nonneg (byt s a) n 0
   have ht := T_lt (byt s a) n 0
   rw [bor_comm, wrap64_eq (x := T (byt s a) 0 n) (by omega) (by omega)]
   rw [or_i64 _ _ (7 * n) (by omega) (by rw [mod_wrap _ _ (by omega)]; exact mul_pow_mod _ _) ht0 (by rw [p128]; exact ht)]
   refine gets_j2 s a bits hf0 n h1 h2 h3 _ (wrap64_idem _ _ ?_) k
   obtain ⟨q, hq⟩ := wrap64_mod (-1 * 128 ^ n)
   rw [hq]
   unfold sg; rw [if_pos c]
   omega
  ·rw [if_neg (by simp; omega)]
   refine gets_j2 s a bits hf0 n h1 h2 h3 _ (wrap64_idem _ _ ?_) k
   unfold sg; rw [if_pos c]
   have := pow_big (n := n) (by omega)
   omega
 ·rw [if_pos (by omega), leb_GetSigned.j1, if_neg (by simp)]
  refine gets_j2 s a bits hf0 n h1 h2 h3 _ ?_ k
  unfold sg; rw [if_neg c, Int.sub_zero]
theorem gets_l0 (s : ByteArray) (a bits : Int) (hf : Fit s a bits) (n : Nat) (h1 : 1 ≤ n) (h2 : n ≤ mo bits) (h3 : a + n ≤ s.size) : ∀ (d i k : Nat), i + d = n → d + 2 < k →
  leb_GetSigned.l0 k s a bits n (wrap64 (T (byt s a) 0 i)) n i = some (sres s a bits n)
 | d, i, 0, _, h => by omega
 | 0, i, k + 1, hi, hk => by
  obtain rfl : i = n := by omega
  obtain ⟨k, rfl⟩ : ∃ m, k = m + 2 := ⟨k - 2, by omega⟩
  exact gets_end s a bits hf i h1 h2 h3 k
 | d + 1, i, k + 1, hi, hk => by
  have hf0 := hf
  obtain ⟨hb, h0, hs', hz⟩ := hf
  have hm' : mo bits ≤ 10 := by unfold mo; split <;> omega
  have w1 : wrap64 (a + i) = a + i := wrap64_eq (by omega) (by omega)
  have w2 : wrap64 (7 * (i : Int)) = 7 * i := wrap64_eq (by omega) (by omega)
  have w3 : wrap64 ((i : Int) + 1) = ((i + 1 : Nat) : Int) := by rw [wrap64_eq (by omega) (by omega)]; omega
  have hr := byt_range s a i
  have hT := T_small (byt s a) (i := i) (by omega) 0
  have hT0 := T_nonneg (byt s a) i 0
  rw [leb_GetSigned.l0, if_pos (by omega), w1, if_pos (by omega), if_pos (by omega), w2, if_pos (by omega), w3]
  rw [show bt s (a + i) = byt s a i from rfl, and_u8 _ hr.1 hr.2, wrap64_eq (x := byt s a i % 128) (by omega) (by omega)]
  rw [shl7 .i64 rfl _ i (by omega), i64_eq, wrap64_eq (x := T (byt s a) 0 i) (by omega) (by omega), bor_comm]
  rw [or_i64 _ _ (7 * i) (by omega) (by rw [mod_wrap _ _ (by omega)]; exact mul_pow_mod _ _) hT0 (by rw [p128]; exact T_lt _ _ _)]
  have e : wrap64 (wrap64 (byt s a i % 128 * 128 ^ i) + T (byt s a) 0 i) = wrap64 (T (byt s a) 0 (i + 1)) := by
   refine wrap64_idem _ _ ?_
   obtain ⟨q, hq⟩ := wrap64_mod (byt s a i % 128 * 128 ^ i)
   rw [hq, T_last, Nat.zero_add]; omega
  rw [e]
  exact gets_l0 s a bits hf0 n h1 h2 h3 d (i + 1) k (by omega) (by omega)
theorem gets_ev (s : ByteArray) (a bits : Int) (hz : s.size ≤ 140737488355328) : Ev (fun k => leb_GetSigned.f k s a bits) (GS s a bits) := by
 by_cases hf : Fit s a bits
 ·refine Ev.bind (parts_fit s a bits hf) ?_
  rcases scan_or (byt s a) ((s.size : Int) - a).toNat (mo bits) with ⟨n, h1, h2, h3, h4, _, _⟩ | ⟨h, _⟩
  ·rw [GS_ok hf h4, h4]
   refine ⟨n + 3, fun k hk => ?_⟩
   have hs := hf.2.2.1
   have h0 := hf.2.1
   have := gets_l0 s a bits hf n h1 h2 (by omega) n 0 k (by omega) (by omega)
   rw [T, show wrap64 0 = 0 from by decide +kernel] at this
   simp only [if_true]
   exact this
  ·rw [GS_err hf h]
   refine ⟨0, fun k _ => ?_⟩
   simp [h]
 ·rw [GS_not hf]
  refine Ev.bind (parts_not s a bits hz hf) ⟨0, fun k _ => rfl⟩
end Go.Proofs.YtkdoijfjceeblaaDoor.LebGetS
namespace Go.Proofs.YtkdoijfjceeblaaDoor.LebBacks
open Go Go.RowKit Go.Proofs.YtkdoijfjceeblaaDoorW.PrintWords Go.Proofs.YtkdoijfjceeblaaDoorW.PrintMore Go.Proofs.YtkdoijfjceeblaaDoor.LebMath Go.Proofs.YtkdoijfjceeblaaDoor.LebFns Go.Proofs.YtkdoijfjceeblaaDoor.LebGets Go.Proofs.YtkdoijfjceeblaaDoor.LebGetS Go.Proofs.YtkdoijfjceeblaaDoor.F
def nth (ds : List Int) (i : Nat) : Int := ds.getD i 0
theorem nth_cons (c : Int) (ds : List Int) (i : Nat) : nth (c :: ds) (i + 1) = nth ds i := rfl
theorem nth_zero (c : Int) (ds : List Int) : nth (c :: ds) 0 = c := rfl
theorem T_shift (f : Nat → Int) : ∀ m j, T f (j + 1) m = T (fun i => f (i + 1)) j m
 | 0, _ => rfl
 | m + 1, j => by rw [T, T, T_shift f m (j + 1)]
theorem T_cons (c : Int) (ds : List Int) (n : Nat) : T (nth (c :: ds)) 0 (n + 1) = c % 128 + 128 * T (nth ds) 0 n := by
 rw [T, T_shift]; rfl
structure USpec (ds : List Int) (u : Int) : Prop where
 pos : 1 ≤ ds.length
 more : ∀ i, i < ds.length - 1 → 128 ≤ nth ds i
 last : nth ds (ds.length - 1) < 128
 range : ∀ i, 0 ≤ nth ds i ∧ nth ds i < 256
 val : T (nth ds) 0 ds.length = u
 lo : 1 < ds.length → 128 ^ (ds.length - 1) ≤ u
 hi : u < 128 ^ ds.length
theorem nth_out (ds : List Int) (i : Nat) (h : ds.length ≤ i) : nth ds i = 0 := by
 simp [nth, List.getD_eq_getElem?_getD, List.getElem?_eq_none h]
theorem uspec_one (u : Int) (h0 : 0 ≤ u) (h1 : u < 128) : USpec [u % 256] u := by
 have e : u % 256 = u := by omega
 rw [e]
 refine ⟨by simp, fun i hi => by simp at hi, by simpa [nth] using h1, fun i => ?_, by simp [T, nth]; omega, fun h => by simp at h, by simpa using h1⟩
 cases i with
 | zero => simp [nth]; omega
 | succ i => rw [nth_out _ _ (by simp)]; omega
theorem U_spec : ∀ (d : Nat) (u : Int), 0 ≤ u → u < 128 ^ (d + 1) → USpec (U d u) u ∧ (U d u).length ≤ d + 1
 | 0, u, h0, h1 => by rw [U]; exact ⟨uspec_one u h0 (by simpa using h1), by simp⟩
 | d + 1, u, h0, h1 => by
  rw [U]
  by_cases h : u ≥ 128
  ·rw [if_pos h]
   obtain ⟨ih, il⟩ := U_spec d (u / 128) (by omega) (by rw [Int.pow_succ] at h1; omega)
   have hp := ih.pos
   refine ⟨⟨by simp, fun i hi => ?_, ?_, fun i => ?_, ?_, fun _ => ?_, ?_⟩, by simp; omega⟩
   ·cases i with
    | zero => rw [nth_zero]; omega
    | succ i => rw [nth_cons]; exact ih.more i (by simp at hi; omega)
   ·rw [List.length_cons, show (U d (u / 128)).length + 1 - 1 = ((U d (u / 128)).length - 1) + 1 from by omega, nth_cons]; exact ih.last
   ·cases i with
    | zero => rw [nth_zero]; omega
    | succ i => rw [nth_cons]; exact ih.range i
   ·rw [List.length_cons, T_cons, ih.val]; omega
   ·rw [List.length_cons, Nat.add_sub_cancel]
    by_cases hl : 1 < (U d (u / 128)).length
    ·have := ih.lo hl
     rw [show (U d (u / 128)).length = ((U d (u / 128)).length - 1) + 1 from by omega, Int.pow_succ]; omega
    ·rw [show (U d (u / 128)).length = 1 from by omega]; omega
   ·have := ih.hi
    rw [List.length_cons, Int.pow_succ]; omega
  ·rw [if_neg h]; exact ⟨uspec_one u h0 (by omega), by simp⟩
structure SSpec (ds : List Int) (x : Int) : Prop where
 pos : 1 ≤ ds.length
 more : ∀ i, i < ds.length - 1 → 128 ≤ nth ds i
 last : nth ds (ds.length - 1) < 128
 range : ∀ i, 0 ≤ nth ds i ∧ nth ds i < 256
 val : T (nth ds) 0 ds.length - (if nth ds (ds.length - 1) / 64 % 2 = 1 then 128 ^ ds.length else 0) = x
 lo : 1 < ds.length → x < -(64 * 128 ^ (ds.length - 2)) ∨ 64 * 128 ^ (ds.length - 2) ≤ x
 hi : x < 64 * 128 ^ (ds.length - 1)
 hi' : -(64 * 128 ^ (ds.length - 1)) ≤ x
theorem bt_append (s t : ByteArray) (i : Nat) : bt (s ++ t) (i : Int) = if i < s.size then bt s (i : Int) else bt t ((i - s.size : Nat) : Int) := by
 unfold bt
 simp only [Int.toNat_natCast]
 by_cases h : i < s.size
 ·rw [if_pos h, dif_pos h, dif_pos (by rw [ByteArray.size_append]; omega), ByteArray.getElem_append_left h]
 ·rw [if_neg h]
  by_cases h2 : i < (s ++ t).size
  ·rw [dif_pos h2, dif_pos (by rw [ByteArray.size_append] at h2; omega), ByteArray.getElem_append_right (by omega)]
  ·rw [dif_neg h2, dif_neg (by rw [ByteArray.size_append] at h2; omega)]
theorem size_str (ds : List Int) : (strOfNums ds).size = ds.length := by
 simp [strOfNums, ByteArray.size]
theorem bt_str (ds : List Int) (i : Nat) (h : 0 ≤ nth ds i ∧ nth ds i < 256) : bt (strOfNums ds) (i : Int) = nth ds i := by
 unfold bt
 simp only [Int.toNat_natCast]
 by_cases hi : i < ds.length
 ·rw [dif_pos (by rw [size_str]; exact hi)]
  have e : (strOfNums ds)[i]'(by rw [size_str]; exact hi) = UInt8.ofNat (ds[i].toNat) := by
   simp [strOfNums, ByteArray.getElem_eq_getElem_data]
  rw [e]
  have e2 : nth ds i = ds[i] := by unfold nth; rw [List.getD_eq_getElem?_getD, List.getElem?_eq_getElem hi]; rfl
  rw [e2] at h ⊢
  rw [UInt8.toNat_ofNat']
  omega
 ·rw [dif_neg (by rw [size_str]; exact hi), nth_out _ _ (by omega)]
def At (s : ByteArray) (a : Int) (ds : List Int) : Prop := 0 ≤ a ∧ a + ds.length ≤ s.size ∧ s.size ≤ 140737488355328 ∧ ∀ i, i < ds.length → byt s a i = nth ds i
theorem at_mid (p q : ByteArray) (ds : List Int) (hr : ∀ i, 0 ≤ nth ds i ∧ nth ds i < 256) (hz : (p ++ strOfNums ds ++ q).size ≤ 140737488355328) : At (p ++ strOfNums ds ++ q) p.size ds := by
 refine ⟨by omega, by simp only [ByteArray.size_append, size_str]; omega, hz, fun i hi => ?_⟩
 unfold byt
 rw [show (p.size : Int) + (i : Int) = ((p.size + i : Nat) : Int) from by omega, bt_append, if_pos (by rw [ByteArray.size_append, size_str]; omega), bt_append, if_neg (by omega), show p.size + i - p.size = i from by omega]
 exact bt_str ds i (hr i)
theorem scan_at {s : ByteArray} {a : Int} {ds : List Int} (h : At s a ds) (hp : 1 ≤ ds.length) (hm : ∀ i, i < ds.length - 1 → 128 ≤ nth ds i) (hl : nth ds (ds.length - 1) < 128) {m : Nat} (hlen : ds.length ≤ m) :
  scan (byt s a) ((s.size : Int) - a).toNat m 0 = ((ds.length : Int), 0) := by
 obtain ⟨h0, h1, _, h2⟩ := h
 rw [scan_ok (byt s a) _ m 0 (ds.length - 1) (by omega) (by omega) (by omega) (by rw [h2 _ (by omega)]; exact hl) (fun j _ hj => by rw [h2 _ (by omega)]; exact hm j hj)]
 congr 1; omega
theorem T_at {s : ByteArray} {a : Int} {ds : List Int} (h : At s a ds) : T (byt s a) 0 ds.length = T (nth ds) 0 ds.length :=
 T_congr _ _ _ _ fun i _ hi => h.2.2.2 i (by omega)
theorem last_u {ds : List Int} {u : Int} (h : USpec ds u) : nth ds (ds.length - 1) = u / 128 ^ (ds.length - 1) := by
 have hv := h.val
 have hp := h.pos
 obtain ⟨m, hm⟩ : ∃ m, ds.length = m + 1 := ⟨ds.length - 1, by omega⟩
 have hl := h.last
 have hr := h.range (ds.length - 1)
 rw [hm, Nat.add_sub_cancel] at hl hr ⊢
 rw [hm, T_last, Nat.zero_add] at hv
 have h0 := T_nonneg (nth ds) m 0
 have h1 := T_lt (nth ds) m 0
 have hp0 := pow_pos128 m
 rw [← hv, show nth ds m % 128 = nth ds m from by omega, Int.add_mul_ediv_right _ _ (by omega), Int.ediv_eq_zero_of_lt h0 h1]
 omega
theorem get_u {s : ByteArray} {a bits u : Int} {ds : List Int} (h : At s a ds) (hu : USpec ds u) (hb : bits = 32 ∧ u < 4294967296 ∨ bits = 64 ∧ u < 18446744073709551616) (hlen : ds.length ≤ mo bits) : G s a bits = (wrap64 u, a + ds.length, 0) := by
 have hf : Fit s a bits := ⟨by omega, h.1, by have := h.2.1; omega, h.2.2.1⟩
 have hp := hu.pos
 rw [G_ok hf (scan_at h hp hu.more hu.last hlen)]
 unfold gres
 have hlast : byt s a (ds.length - 1) = u / 128 ^ (ds.length - 1) := by rw [h.2.2.2 _ (by omega)]; exact last_u hu
 rw [if_neg, T_at h, hu.val]
 rintro ⟨e, hne⟩
 apply hne
 rw [hlast]
 have hu0 : 0 ≤ u := by rw [← hu.val]; exact T_nonneg _ _ _
 rcases hb with ⟨rfl, hb⟩ | ⟨rfl, hb⟩
 ·have e5 : ds.length = 5 := e
  rw [e5]
  have p4 : (128 : Int) ^ (5 - 1) = 268435456 := by decide
  have hh : hw 32 = 16 := rfl
  rw [p4, hh]; omega
 ·have e10 : ds.length = 10 := e
  rw [e10]
  have p9 : (128 : Int) ^ (10 - 1) = 9223372036854775808 := by decide
  have hh : hw 64 = 2 := rfl
  rw [p9, hh]; omega
theorem len_u32 {ds : List Int} {u : Int} (hu : USpec ds u) (h : u < 4294967296) : ds.length ≤ 5 := by
 by_cases c : 1 < ds.length
 ·have := hu.lo c
  rcases Nat.lt_or_ge 5 ds.length with h6 | h6
  ·have : (128 : Int) ^ 5 ≤ 128 ^ (ds.length - 1) := by
    have h7 : (128 : Nat) ^ 5 ≤ 128 ^ (ds.length - 1) := Nat.pow_le_pow_right (by omega) (by omega)
    exact_mod_cast h7
   have p5 : (128 : Int) ^ 5 = 34359738368 := by decide
   omega
  ·exact h6
 ·omega
theorem U9 (u : Int) (h0 : 0 ≤ u) (h1 : u < 18446744073709551616) : USpec (U 9 u) u ∧ (U 9 u).length ≤ 10 := U_spec 9 u h0 (by have := pow10; omega)
end Go.Proofs.YtkdoijfjceeblaaDoor.LebBacks
end
