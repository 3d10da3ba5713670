-- Written for this claim by a program of this session (wip/tools/myprint.sh), out of the translation. Lean checks it.
import Derived.Test.YtmofdpkddimmlaaGx0
import Derived.Test.YtmofdpkddimmlaaGx1
import Derived.Test.YtmofdpkddimmlaaEAwk17
namespace Go.Proofs.Ytmofdpkddimmlaa.G
open Go.RowKit Go.Proofs.YtmofdpkddimmlaaW.PrintWords Go.Proofs.YtmofdpkddimmlaaW.PrintLast Go.Proofs.YtmofdpkddimmlaaW.PrintMore
attribute [local go_sem] max2_int min2_int max_two min_two max_three min_three max_four min_four   -- for this text's walks alone
set_option linter.unusedVariables false
set_option linter.unusedSimpArgs false

/-! ### peloruslaw17_FtypeMay: function 8 -/
mutual
def peloruslaw17_FtypeMay.l0 : Nat → Int → Int → Int → Int → List Int → Option (Bool)
  | 0, _, _, _, _, _ => none
  | k + 1, x2, x7, x8, x10, x129000 => if x10 < x7 then (if x129000.length < 17592186044416 then (peloruslaw17_FtypeMay.l0 k x2 x7 x8 (wrap64 (x10 + 1)) (x129000 ++ [wrap64 (127 - (Go.bits .and .i64 x10 3))])) else (none)) else (peloruslaw17_FtypeMay.l1 k x2 x7 x8 0 x129000 ([] : List Int))
def peloruslaw17_FtypeMay.l1 : Nat → Int → Int → Int → Int → List Int → List Int → Option (Bool)
  | 0, _, _, _, _, _, _ => none
  | k + 1, x2, x7, x8, x11, x129000, x129001 => if x11 < x8 then (if x129001.length < 17592186044416 then (peloruslaw17_FtypeMay.l1 k x2 x7 x8 (wrap64 (x11 + 1)) x129000 (x129001 ++ [124])) else (none)) else (if x7 ≤ 32 then (peloruslaw17_FtypeMay.j2 k x2 x7 x8 (decide (x8 ≤ 1)) x129000 x129001) else (peloruslaw17_FtypeMay.j2 k x2 x7 x8 false x129000 x129001))
def peloruslaw17_FtypeMay.j2 : Nat → Int → Int → Int → Bool → List Int → List Int → Option (Bool)
  | 0, _, _, _, _, _, _ => none
  | k + 1, x2, x7, x8, x12, x129000, x129001 => (some (([Go.bits .and .i64 x2 255] : List Int) : List Int)).bind fun y135 => ((ftype_May.f k x129000 x129001).bind fun t139 => (if (t139 == x12) = true then ((ftype_May.f k ([] : List Int) y135).bind fun t140 => (if (Go.bits .and .i64 x2 255) ≥ 124 then (if (t140 == (decide ((Go.bits .and .i64 x2 255) ≤ 127))) = true then ((ftype_Same.f k x129000 x129001 x129000 x129001).bind fun t141 => (if t141 = true then ((ftype_Same.f k x129000 x129001 ([] : List Int) y135).bind fun t142 => (if x7 = 0 then (if x8 = 1 then (if (t142 == ((Go.bits .and .i64 x2 255) == 124)) = true then ((peloruslaw0_Num.f 0).bind fun t143 => (some (t143 == 0))) else (some false)) else (if (t142 == false) = true then ((peloruslaw0_Num.f 0).bind fun t144 => (some (t144 == 0))) else (some false))) else (if (t142 == false) = true then ((peloruslaw0_Num.f 0).bind fun t145 => (some (t145 == 0))) else (some false)))) else (some false))) else (some false)) else (if (t140 == false) = true then ((ftype_Same.f k x129000 x129001 x129000 x129001).bind fun t146 => (if t146 = true then ((ftype_Same.f k x129000 x129001 ([] : List Int) y135).bind fun t147 => (if x7 = 0 then (if x8 = 1 then (if (t147 == ((Go.bits .and .i64 x2 255) == 124)) = true then ((peloruslaw0_Num.f 0).bind fun t148 => (some (t148 == 0))) else (some false)) else (if (t147 == false) = true then ((peloruslaw0_Num.f 0).bind fun t149 => (some (t149 == 0))) else (some false))) else (if (t147 == false) = true then ((peloruslaw0_Num.f 0).bind fun t150 => (some (t150 == 0))) else (some false)))) else (some false))) else (some false)))) else (some false)))
end
def peloruslaw17_FtypeMay.f (k : Nat) (a0 : Int) (a1 : Int) (a2 : Int) : Option (Bool) := (peloruslaw17_awake.f k).bind fun t127 => (if t127 = true then (peloruslaw17_FtypeMay.l0 k a2 (Go.bits .and .i64 a0 63) (Go.bits .and .i64 a1 3) 0 ([] : List Int)) else (some false))
theorem peloruslaw17_FtypeMay.mono_l : ∀ k, (∀ y0 y1 y2 y3 y4, LeO (peloruslaw17_FtypeMay.l0 k y0 y1 y2 y3 y4) (peloruslaw17_FtypeMay.l0 (k + 1) y0 y1 y2 y3 y4)) ∧ (∀ y0 y1 y2 y3 y4 y5, LeO (peloruslaw17_FtypeMay.l1 k y0 y1 y2 y3 y4 y5) (peloruslaw17_FtypeMay.l1 (k + 1) y0 y1 y2 y3 y4 y5)) ∧ (∀ y0 y1 y2 y3 y4 y5, LeO (peloruslaw17_FtypeMay.j2 k y0 y1 y2 y3 y4 y5) (peloruslaw17_FtypeMay.j2 (k + 1) y0 y1 y2 y3 y4 y5))
  | 0 => ⟨fun _ _ _ _ _ r h => by simp [peloruslaw17_FtypeMay.l0] at h, fun _ _ _ _ _ _ r h => by simp [peloruslaw17_FtypeMay.l1] at h, fun _ _ _ _ _ _ r h => by simp [peloruslaw17_FtypeMay.j2] at h⟩
  | k + 1 => by
    obtain ⟨ih0, ih1, ih2⟩ := peloruslaw17_FtypeMay.mono_l k
    refine ⟨?_, ?_, ?_⟩
    · intro y0 y1 y2 y3 y4
      unfold peloruslaw17_FtypeMay.l0
      repeat' first
      | (with_reducible exact ih0 _ _ _ _ _)
      | (with_reducible exact ih1 _ _ _ _ _ _)
      | (with_reducible exact ih2 _ _ _ _ _ _)
      | (with_reducible exact ftype_May.mono _ _ _)
      | (with_reducible exact ftype_Same.mono _ _ _ _ _)
      | (with_reducible exact peloruslaw17_awake.mono _)
      | (with_reducible exact LeO.refl _)
      | (with_reducible exact LeO.none _)
      | (with_reducible refine LeO.ite ?_ ?_)
      | (with_reducible refine LeO.bind ?_ (fun _ => ?_))
      | exact ih0 _ _ _ _ _
      | exact ih1 _ _ _ _ _ _
      | exact ih2 _ _ _ _ _ _
      | exact ftype_May.mono _ _ _
      | exact ftype_Same.mono _ _ _ _ _
      | exact peloruslaw17_awake.mono _
      | exact LeO.none _
      | refine LeO.ite ?_ ?_
      | refine LeO.bind ?_ (fun _ => ?_)
    · intro y0 y1 y2 y3 y4 y5
      unfold peloruslaw17_FtypeMay.l1
      repeat' first
      | (with_reducible exact ih0 _ _ _ _ _)
      | (with_reducible exact ih1 _ _ _ _ _ _)
      | (with_reducible exact ih2 _ _ _ _ _ _)
      | (with_reducible exact ftype_May.mono _ _ _)
      | (with_reducible exact ftype_Same.mono _ _ _ _ _)
      | (with_reducible exact peloruslaw17_awake.mono _)
      | (with_reducible exact LeO.refl _)
      | (with_reducible exact LeO.none _)
      | (with_reducible refine LeO.ite ?_ ?_)
      | (with_reducible refine LeO.bind ?_ (fun _ => ?_))
      | exact ih0 _ _ _ _ _
      | exact ih1 _ _ _ _ _ _
      | exact ih2 _ _ _ _ _ _
      | exact ftype_May.mono _ _ _
      | exact ftype_Same.mono _ _ _ _ _
      | exact peloruslaw17_awake.mono _
      | exact LeO.none _
      | refine LeO.ite ?_ ?_
      | refine LeO.bind ?_ (fun _ => ?_)
    · intro y0 y1 y2 y3 y4 y5
      unfold peloruslaw17_FtypeMay.j2
      repeat' first
      | (with_reducible exact ih0 _ _ _ _ _)
      | (with_reducible exact ih1 _ _ _ _ _ _)
      | (with_reducible exact ih2 _ _ _ _ _ _)
      | (with_reducible exact ftype_May.mono _ _ _)
      | (with_reducible exact ftype_Same.mono _ _ _ _ _)
      | (with_reducible exact peloruslaw17_awake.mono _)
      | (with_reducible exact LeO.refl _)
      | (with_reducible exact LeO.none _)
      | (with_reducible refine LeO.ite ?_ ?_)
      | (with_reducible refine LeO.bind ?_ (fun _ => ?_))
      | exact ih0 _ _ _ _ _
      | exact ih1 _ _ _ _ _ _
      | exact ih2 _ _ _ _ _ _
      | exact ftype_May.mono _ _ _
      | exact ftype_Same.mono _ _ _ _ _
      | exact peloruslaw17_awake.mono _
      | exact LeO.none _
      | refine LeO.ite ?_ ?_
      | refine LeO.bind ?_ (fun _ => ?_)
theorem peloruslaw17_FtypeMay.mono : ∀ a0 a1 a2 k, LeO (peloruslaw17_FtypeMay.f k a0 a1 a2) (peloruslaw17_FtypeMay.f (k + 1) a0 a1 a2) := by
  intro a0 a1 a2 k
  obtain ⟨ih0, ih1, ih2⟩ := peloruslaw17_FtypeMay.mono_l k
  unfold peloruslaw17_FtypeMay.f
  repeat' first
      | (with_reducible exact ih0 _ _ _ _ _)
      | (with_reducible exact ih1 _ _ _ _ _ _)
      | (with_reducible exact ih2 _ _ _ _ _ _)
      | (with_reducible exact ftype_May.mono _ _ _)
      | (with_reducible exact ftype_Same.mono _ _ _ _ _)
      | (with_reducible exact peloruslaw17_awake.mono _)
      | (with_reducible exact LeO.refl _)
      | (with_reducible exact LeO.none _)
      | (with_reducible refine LeO.ite ?_ ?_)
      | (with_reducible refine LeO.bind ?_ (fun _ => ?_))
      | exact ih0 _ _ _ _ _
      | exact ih1 _ _ _ _ _ _
      | exact ih2 _ _ _ _ _ _
      | exact ftype_May.mono _ _ _
      | exact ftype_Same.mono _ _ _ _ _
      | exact peloruslaw17_awake.mono _
      | exact LeO.none _
      | refine LeO.ite ?_ ?_
      | refine LeO.bind ?_ (fun _ => ?_)
def peloruslaw17_FtypeMay.Pure : Prop := ∀ (a0 : Int) (a1 : Int) (a2 : Int), (Lit.int .i64 a0).wf = true → (Lit.int .i64 a1).wf = true → (Lit.int .i64 a2).wf = true → ∃ k, peloruslaw17_FtypeMay.f k a0 a1 a2 = some true
end Go.Proofs.Ytmofdpkddimmlaa.G
