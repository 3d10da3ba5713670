/-
  What the claim leans on, cut to what is used (wip/tools/prune15.py): words, printed functions, walks.
-/
import Derived.Test.YtkdoijfjceeblaaDoorQF2
import Derived.Test.YtkdoijfjceeblaaDoorQEDecA
import Derived.Test.YtkdoijfjceeblaaDoorQESame
namespace Go.Proofs.YtkdoijfjceeblaaDoor.EDec
open Go Go.RowKit Go.Proofs.YtkdoijfjceeblaaDoor.F Go.Proofs.YtkdoijfjceeblaaDoorW.Hand Go.Proofs.YtkdoijfjceeblaaDoorW.PrintWords Go.Proofs.YtkdoijfjceeblaaDoorW.PrintLast Go.Proofs.YtkdoijfjceeblaaDoorW.PrintMore
open Go.Proofs.YtkdoijfjceeblaaDoor.LebGets (G)
open Go.Proofs.YtkdoijfjceeblaaDoor.ENames (Tabs tabs_below nget nmay)
open Go.Proofs.YtkdoijfjceeblaaDoor.EInstr (GRes pGet get_b ret_int wrap_bt)
set_option linter.unusedVariables false
set_option linter.unusedSimpArgs false
theorem sameInts_k (l : List Int) (hl : l.length ≤ 9223372036854775807) : ∀ d i k, i + d = l.length → d < k → peloruslaw0_SameInts.l0 k l l (i : Int) = some true := by
 intro d
 induction d with
 | zero =>
  intro i k hi hk
  obtain ⟨k, rfl⟩ : ∃ k', k = k' + 1 := ⟨k - 1, by omega⟩
  rw [peloruslaw0_SameInts.l0, if_neg (by omega)]
 | succ d ih =>
  intro i k hi hk
  obtain ⟨k, rfl⟩ : ∃ k', k = k' + 1 := ⟨k - 1, by omega⟩
  rw [peloruslaw0_SameInts.l0, if_pos (by omega), if_pos (by omega), if_pos (by omega), if_pos rfl, show wrap64 ((i : Int) + 1) = ((i + 1 : Nat) : Int) by unfold wrap64; omega]
  exact ih (i + 1) k (by omega) (by omega)
theorem sameType_eq {w : World} {A0 A1 B0 B1 : Option Addr} {a0 a1 b0 b1 : Nat} {l m : List Int} (h0 : (Kd.int .i64).C w A0 l.length l) (k0 : l.length ≤ a0) (h1 : (Kd.int .i64).C w A1 m.length m) (k1 : m.length ≤ a1) (h2 : (Kd.int .i64).C w B0 l.length l) (k2 : l.length ≤ b0) (h3 : (Kd.int .i64).C w B1 m.length m) (k3 : m.length ≤ b1) :
  Calls Tryd.prog 21 #[.agg #[.slice A0 l.length a0, .slice A1 m.length a1], .agg #[.slice B0 l.length b0, .slice B1 m.length b1]] w fun e w' => e = .returned (.bool true) ∧ Below w.heap.size w w' :=
 peloruslaw0_SameType.calls (l.length + m.length + 1) A0 a0 l A1 a1 m B0 b0 l B1 b1 m true w h0 k0 h1 k1 h2 k2 h3 k3 (by
  have e1 : peloruslaw0_SameInts.f (l.length + m.length + 1) l l = some true := by unfold peloruslaw0_SameInts.f; rw [if_pos rfl]; exact sameInts_k l (Kd.C_max h0) l.length 0 _ (by omega) (by omega)
  have e2 : peloruslaw0_SameInts.f (l.length + m.length + 1) m m = some true := by unfold peloruslaw0_SameInts.f; rw [if_pos rfl]; exact sameInts_k m (Kd.C_max h1) m.length 0 _ (by omega) (by omega)
  unfold peloruslaw0_SameType.f
  rw [e1, e2]; rfl)
set_option maxHeartbeats 16000000 in
set_option maxRecDepth 100000 in
theorem same1_c {W : World} {m : Mod} {A0 B0 A1 B1 A2 B2 A3 B3 A4 B4 A5 B5 A6 B6 A8 B8 A9 B9 A10 B10 : Option Addr} {c0 d0 c1 d1 c2 d2 c3 d3 c4 d4 c5 d5 c6 d6 c8 d8 c9 d9 c10 d10 : Nat} (C0 : k51.C W A0 m.types.length m.types) (lc0 : m.types.length ≤ c0) (D0 : k51.C W B0 m.types.length m.types) (ld0 : m.types.length ≤ d0) (C1 : k92.C W A1 m.imports.length m.imports) (lc1 : m.imports.length ≤ c1) (D1 : k92.C W B1 m.imports.length m.imports) (ld1 : m.imports.length ≤ d1) (C2 : (Kd.int .i64).C W A2 m.funcs.length m.funcs) (lc2 : m.funcs.length ≤ c2) (D2 : (Kd.int .i64).C W B2 m.funcs.length m.funcs) (ld2 : m.funcs.length ≤ d2) (C3 : k54.C W A3 m.tables.length m.tables) (lc3 : m.tables.length ≤ c3) (D3 : k54.C W B3 m.tables.length m.tables) (ld3 : m.tables.length ≤ d3) (C4 : k54.C W A4 m.mems.length m.mems) (lc4 : m.mems.length ≤ c4) (D4 : k54.C W B4 m.mems.length m.mems) (ld4 : m.mems.length ≤ d4) (C5 : k72.C W A5 m.globals.length m.globals) (lc5 : m.globals.length ≤ c5) (D5 : k72.C W B5 m.globals.length m.globals) (ld5 : m.globals.length ≤ d5) (C6 : k75.C W A6 m.exports.length m.exports) (lc6 : m.exports.length ≤ c6) (D6 : k75.C W B6 m.exports.length m.exports) (ld6 : m.exports.length ≤ d6) (C8 : k77.C W A8 m.elems.length m.elems) (lc8 : m.elems.length ≤ c8) (D8 : k77.C W B8 m.elems.length m.elems) (ld8 : m.elems.length ≤ d8) (C9 : k57.C W A9 m.codes.length m.codes) (lc9 : m.codes.length ≤ c9) (D9 : k57.C W B9 m.codes.length m.codes) (ld9 : m.codes.length ≤ d9) (C10 : k80.C W A10 m.datas.length m.datas) (lc10 : m.datas.length ≤ c10) (D10 : k80.C W B10 m.datas.length m.datas) (ld10 : m.datas.length ≤ d10) :
  Calls Tryd.prog 28 #[.agg #[.slice A0 m.types.length c0, .slice A1 m.imports.length c1, .slice A2 m.funcs.length c2, .slice A3 m.tables.length c3, .slice A4 m.mems.length c4, .slice A5 m.globals.length c5, .slice A6 m.exports.length c6, .int .i64 m.start, .slice A8 m.elems.length c8, .slice A9 m.codes.length c9, .slice A10 m.datas.length c10], .agg #[.slice B0 m.types.length d0, .slice B1 m.imports.length d1, .slice B2 m.funcs.length d2, .slice B3 m.tables.length d3, .slice B4 m.mems.length d4, .slice B5 m.globals.length d5, .slice B6 m.exports.length d6, .int .i64 m.start, .slice B8 m.elems.length d8, .slice B9 m.codes.length d9, .slice B10 m.datas.length d10]] W fun e w' => e = .returned (.bool true) ∧ Below W.heap.size W w' := by
 have HC0 := am C0; have HD0 := am D0; have HL0 := am lc0; have HM0 := am ld0; have MX0 := am (show (m.types.length : Int) ≤ 9223372036854775807 by have := Kd.C_max C0; omega); clear C0 D0 lc0 ld0
 have HC1 := am C1; have HD1 := am D1; have HL1 := am lc1; have HM1 := am ld1; have MX1 := am (show (m.imports.length : Int) ≤ 9223372036854775807 by have := Kd.C_max C1; omega); clear C1 D1 lc1 ld1
 have HC2 := am C2; have HD2 := am D2; have HL2 := am lc2; have HM2 := am ld2; have MX2 := am (show (m.funcs.length : Int) ≤ 9223372036854775807 by have := Kd.C_max C2; omega); clear C2 D2 lc2 ld2
 have HC3 := am C3; have HD3 := am D3; have HL3 := am lc3; have HM3 := am ld3; have MX3 := am (show (m.tables.length : Int) ≤ 9223372036854775807 by have := Kd.C_max C3; omega); clear C3 D3 lc3 ld3
 have HC4 := am C4; have HD4 := am D4; have HL4 := am lc4; have HM4 := am ld4; have MX4 := am (show (m.mems.length : Int) ≤ 9223372036854775807 by have := Kd.C_max C4; omega); clear C4 D4 lc4 ld4
 have HC5 := am C5; have HD5 := am D5; have HL5 := am lc5; have HM5 := am ld5; have MX5 := am (show (m.globals.length : Int) ≤ 9223372036854775807 by have := Kd.C_max C5; omega); clear C5 D5 lc5 ld5
 have HC6 := am C6; have HD6 := am D6; have HL6 := am lc6; have HM6 := am ld6; have MX6 := am (show (m.exports.length : Int) ≤ 9223372036854775807 by have := Kd.C_max C6; omega); clear C6 D6 lc6 ld6
 have HC8 := am C8; have HD8 := am D8; have HL8 := am lc8; have HM8 := am ld8; have MX8 := am (show (m.elems.length : Int) ≤ 9223372036854775807 by have := Kd.C_max C8; omega); clear C8 D8 lc8 ld8
 have HC9 := am C9; have HD9 := am D9; have HL9 := am lc9; have HM9 := am ld9; have MX9 := am (show (m.codes.length : Int) ≤ 9223372036854775807 by have := Kd.C_max C9; omega); clear C9 D9 lc9 ld9
 have HC10 := am C10; have HD10 := am D10; have HL10 := am lc10; have HM10 := am ld10; have MX10 := am (show (m.datas.length : Int) ≤ 9223372036854775807 by have := Kd.C_max C10; omega); clear C10 D10 lc10 ld10
 go_enter Tryd.func28, Tryd.ntmps28
 go_wp2_with (first
  | ((with_reducible refine gate_dst (N := 2) rfl ?_); refine box_event ?hg (N := 2) ?hd (cs := #[.slice A0 m.types.length c0, .slice A1 m.imports.length c1, .slice A2 m.funcs.length c2, .slice A3 m.tables.length c3, .slice A4 m.mems.length c4, .slice A5 m.globals.length c5, .slice A6 m.exports.length c6, .int .i64 m.start, .slice A8 m.elems.length c8, .slice A9 m.codes.length c9, .slice A10 m.datas.length c10]) (t := 33) ?hr ?_; (case hd => rfl); (case hg => rfl); (case hr => first | (go_simp; done) | (go_simp; rfl)); intro g1 hgg1 w1 hA hb; have K1 := am hA; have BW1 := am hb; clear hA hb hgg1)
  | ((with_reducible refine gate_dst (N := 3) rfl ?_); refine box_event ?hg (N := 3) ?hd (cs := #[.slice B0 m.types.length d0, .slice B1 m.imports.length d1, .slice B2 m.funcs.length d2, .slice B3 m.tables.length d3, .slice B4 m.mems.length d4, .slice B5 m.globals.length d5, .slice B6 m.exports.length d6, .int .i64 m.start, .slice B8 m.elems.length d8, .slice B9 m.codes.length d9, .slice B10 m.datas.length d10]) (t := 33) ?hr ?_; (case hd => rfl); (case hg => rfl); (case hr => first | (go_simp; done) | (go_simp; rfl)); intro g2 hgg2 w2 hA hb; have K1b := am (blk_below K1.out hb); clear K1; have K1 := K1b; clear K1b; have BW2 := am (below_step BW1.out hb); clear BW1; have K2 := am hA; have y0 : w2.cell? ⟨g1, 0, none⟩ = some (.slice A0 m.types.length c0) := blk_cell K1.out 0; have y1 : w2.cell? ⟨g1, 1, none⟩ = some (.slice A1 m.imports.length c1) := blk_cell K1.out 1; have y2 : w2.cell? ⟨g1, 2, none⟩ = some (.slice A2 m.funcs.length c2) := blk_cell K1.out 2; have y3 : w2.cell? ⟨g1, 3, none⟩ = some (.slice A3 m.tables.length c3) := blk_cell K1.out 3; have y4 : w2.cell? ⟨g1, 4, none⟩ = some (.slice A4 m.mems.length c4) := blk_cell K1.out 4; have y5 : w2.cell? ⟨g1, 5, none⟩ = some (.slice A5 m.globals.length c5) := blk_cell K1.out 5; have y6 : w2.cell? ⟨g1, 6, none⟩ = some (.slice A6 m.exports.length c6) := blk_cell K1.out 6; have y7 : w2.cell? ⟨g1, 7, none⟩ = some (.int .i64 m.start) := blk_cell K1.out 7; have y8 : w2.cell? ⟨g1, 8, none⟩ = some (.slice A8 m.elems.length c8) := blk_cell K1.out 8; have y9 : w2.cell? ⟨g1, 9, none⟩ = some (.slice A9 m.codes.length c9) := blk_cell K1.out 9; have y10 : w2.cell? ⟨g1, 10, none⟩ = some (.slice A10 m.datas.length c10) := blk_cell K1.out 10; have x0 : w2.cell? ⟨g2, 0, none⟩ = some (.slice B0 m.types.length d0) := blk_cell K2.out 0; have x1 : w2.cell? ⟨g2, 1, none⟩ = some (.slice B1 m.imports.length d1) := blk_cell K2.out 1; have x2 : w2.cell? ⟨g2, 2, none⟩ = some (.slice B2 m.funcs.length d2) := blk_cell K2.out 2; have x3 : w2.cell? ⟨g2, 3, none⟩ = some (.slice B3 m.tables.length d3) := blk_cell K2.out 3; have x4 : w2.cell? ⟨g2, 4, none⟩ = some (.slice B4 m.mems.length d4) := blk_cell K2.out 4; have x5 : w2.cell? ⟨g2, 5, none⟩ = some (.slice B5 m.globals.length d5) := blk_cell K2.out 5; have x6 : w2.cell? ⟨g2, 6, none⟩ = some (.slice B6 m.exports.length d6) := blk_cell K2.out 6; have x7 : w2.cell? ⟨g2, 7, none⟩ = some (.int .i64 m.start) := blk_cell K2.out 7; have x8 : w2.cell? ⟨g2, 8, none⟩ = some (.slice B8 m.elems.length d8) := blk_cell K2.out 8; have x9 : w2.cell? ⟨g2, 9, none⟩ = some (.slice B9 m.codes.length d9) := blk_cell K2.out 9; have x10 : w2.cell? ⟨g2, 10, none⟩ = some (.slice B10 m.datas.length d10) := blk_cell K2.out 10; clear hA hb hgg2)
  | (go_at_call 30; (with_reducible refine (ESame.sameInts_eq (Kd.C_below HC2.out BW2.out) HL2.out (Kd.C_below HD2.out BW2.out) HM2.out).mono ?_); rintro e w3 ⟨rfl, hb⟩; have BW := am (BW2.out.trans (hb.mono BW2.out.size)); have K1b := am (blk_below' K1.out hb); have K2b := am (blk_below' K2.out hb); clear K1 K2 BW2; have K1 := K1b; have K2 := K2b; clear K1b K2b; clear y0 x0 y1 x1 y2 x2 y3 x3 y4 x4 y5 x5 y6 x6 y7 x7 y8 x8 y9 x9 y10 x10; have y0 : w3.cell? ⟨g1, 0, none⟩ = some (.slice A0 m.types.length c0) := blk_cell K1.out 0; have y1 : w3.cell? ⟨g1, 1, none⟩ = some (.slice A1 m.imports.length c1) := blk_cell K1.out 1; have y2 : w3.cell? ⟨g1, 2, none⟩ = some (.slice A2 m.funcs.length c2) := blk_cell K1.out 2; have y3 : w3.cell? ⟨g1, 3, none⟩ = some (.slice A3 m.tables.length c3) := blk_cell K1.out 3; have y4 : w3.cell? ⟨g1, 4, none⟩ = some (.slice A4 m.mems.length c4) := blk_cell K1.out 4; have y5 : w3.cell? ⟨g1, 5, none⟩ = some (.slice A5 m.globals.length c5) := blk_cell K1.out 5; have y6 : w3.cell? ⟨g1, 6, none⟩ = some (.slice A6 m.exports.length c6) := blk_cell K1.out 6; have y7 : w3.cell? ⟨g1, 7, none⟩ = some (.int .i64 m.start) := blk_cell K1.out 7; have y8 : w3.cell? ⟨g1, 8, none⟩ = some (.slice A8 m.elems.length c8) := blk_cell K1.out 8; have y9 : w3.cell? ⟨g1, 9, none⟩ = some (.slice A9 m.codes.length c9) := blk_cell K1.out 9; have y10 : w3.cell? ⟨g1, 10, none⟩ = some (.slice A10 m.datas.length c10) := blk_cell K1.out 10; have x0 : w3.cell? ⟨g2, 0, none⟩ = some (.slice B0 m.types.length d0) := blk_cell K2.out 0; have x1 : w3.cell? ⟨g2, 1, none⟩ = some (.slice B1 m.imports.length d1) := blk_cell K2.out 1; have x2 : w3.cell? ⟨g2, 2, none⟩ = some (.slice B2 m.funcs.length d2) := blk_cell K2.out 2; have x3 : w3.cell? ⟨g2, 3, none⟩ = some (.slice B3 m.tables.length d3) := blk_cell K2.out 3; have x4 : w3.cell? ⟨g2, 4, none⟩ = some (.slice B4 m.mems.length d4) := blk_cell K2.out 4; have x5 : w3.cell? ⟨g2, 5, none⟩ = some (.slice B5 m.globals.length d5) := blk_cell K2.out 5; have x6 : w3.cell? ⟨g2, 6, none⟩ = some (.slice B6 m.exports.length d6) := blk_cell K2.out 6; have x7 : w3.cell? ⟨g2, 7, none⟩ = some (.int .i64 m.start) := blk_cell K2.out 7; have x8 : w3.cell? ⟨g2, 8, none⟩ = some (.slice B8 m.elems.length d8) := blk_cell K2.out 8; have x9 : w3.cell? ⟨g2, 9, none⟩ = some (.slice B9 m.codes.length d9) := blk_cell K2.out 9; have x10 : w3.cell? ⟨g2, 10, none⟩ = some (.slice B10 m.datas.length d10) := blk_cell K2.out 10; clear hb))
 go_loopg [5] m.types.length (fun n v5 wr => ∃ i : Nat, i + n = m.types.length ∧ v5 = .int .i64 i ∧ wr.heap[g1]? = some (.cells #[.slice A0 m.types.length c0, .slice A1 m.imports.length c1, .slice A2 m.funcs.length c2, .slice A3 m.tables.length c3, .slice A4 m.mems.length c4, .slice A5 m.globals.length c5, .slice A6 m.exports.length c6, .int .i64 m.start, .slice A8 m.elems.length c8, .slice A9 m.codes.length c9, .slice A10 m.datas.length c10] 33 (0, 0)) ∧ wr.heap[g2]? = some (.cells #[.slice B0 m.types.length d0, .slice B1 m.imports.length d1, .slice B2 m.funcs.length d2, .slice B3 m.tables.length d3, .slice B4 m.mems.length d4, .slice B5 m.globals.length d5, .slice B6 m.exports.length d6, .int .i64 m.start, .slice B8 m.elems.length d8, .slice B9 m.codes.length d9, .slice B10 m.datas.length d10] 33 (0, 0)) ∧ Below W.heap.size W wr)
 case atStart => exact ⟨0, by omega, rfl, K1.out, K2.out, BW.out⟩
 case round =>
  obtain ⟨i, hi, rfl, h1, h2, h3⟩ := hrel
  clear K1 K2 BW
  have I0 := am hi
  have K1 := am h1
  have K2 := am h2
  have BW := am h3
  clear hi h1 h2 h3
  by_cases hlt : i < m.types.length
  ·have dl : decide (i < m.types.length) = true := decide_eq_true hlt
   have dl2 : decide ((i : Int) < (m.types.length : Int)) = true := decide_eq_true (by omega)
   have hi0 : (0 : Int) ≤ (i : Int) := by omega
   have HLT := am hlt
   have y : wr.cell? ⟨g1, 0, none⟩ = some (.slice A0 m.types.length c0) := blk_cell K1.out 0
   have z : wr.cell? ⟨g2, 0, none⟩ = some (.slice B0 m.types.length d0) := blk_cell K2.out 0
   obtain ⟨ad, P0, p0c, P1, p1c, eA, a0, a1, u0, U0, u1, U1⟩ := at_T51 (Kd.C_below HC0.out BW.out) (i : Int) (by omega) (by omega)
   obtain ⟨bd, Q0, q0c, Q1, q1c, eB, b0, b1, v0, V0, v1, V1⟩ := at_T51 (Kd.C_below HD0.out BW.out) (i : Int) (by omega) (by omega)
   subst eA eB
   have ML : (m.types.length : Int) ≤ 9223372036854775807 := MX0.out
   have w1 : wrap64 ((i : Int) + 1) = (i : Int) + 1 := by unfold wrap64; omega
   generalize rd_T51 m.types (i : Int) = x at *
   simp only [Int.toNat_natCast] at a0 a1 b0 b1
   have U0' := am U0; have V0' := am V0; clear U0 V0; have U0 := U0'; have V0 := V0'; clear U0' V0'
   have U1' := am U1; have V1' := am V1; clear U1 V1; have U1 := U1'; have V1 := V1'; clear U1' V1'
   have BX0 : Aside0 (Below wr.heap.size wr wr.drew) := ⟨below_drew (Below.refl _ _)⟩
   go_wp2
   refine start_ (n := 12) (S := fun w' => w'.cell? ⟨g1, 0, none⟩ = some (.slice (some ad) m.types.length c0) ∧ w'.cell? ⟨g2, 0, none⟩ = some (.slice (some bd) m.types.length d0) ∧ w'.cell? (ad.add (i * 2)) = some (.slice P0 x.f0.length p0c) ∧ w'.cell? ⟨(ad.add (i * 2)).block, (ad.add (i * 2)).off + 1, none⟩ = some (.slice P1 x.f1.length p1c) ∧ w'.cell? (bd.add (i * 2)) = some (.slice Q0 x.f0.length q0c) ∧ w'.cell? ⟨(bd.add (i * 2)).block, (bd.add (i * 2)).off + 1, none⟩ = some (.slice Q1 x.f1.length q1c)) (ds := []) #[false, false, false, false, false, false, false, false, false, false, false, false] (by kernel_rfl) rfl rfl ⟨y, z, a0, a1, b0, b1⟩ (fun hHeld => ?_)
   refine pu (i := 0) (N := some 58) (v := ?_) (a' := ?_) rfl rfl (by kernel_rfl) (fun _ _ _ h => h) (.inl ⟨by rfl, ?_⟩) ?_ ?_; rotate_left
   ·intro w'; go_simp; with_reducible rfl
   rotate_left; · simp only [Act.put, List.setIfInBounds_toArray, List.set_cons_zero, List.set_cons_succ, i64_w, i32_w]; rfl
   refine pu (i := 2) (N := some 60) (v := ?_) (a' := ?_) rfl rfl (by kernel_rfl) (fun _ _ _ h => h) (.inl ⟨by rfl, ?_⟩) ?_ ?_; rotate_left
   ·intro w'; go_simp; with_reducible rfl
   rotate_left; · simp only [Act.put, List.setIfInBounds_toArray, List.set_cons_zero, List.set_cons_succ, i64_w, i32_w]; rfl
   refine pu (i := 5) (N := some 63) (v := ?_) (a' := ?_) rfl rfl (by kernel_rfl) (fun _ _ _ h => h) (.inl ⟨by rfl, ?_⟩) ?_ ?_; rotate_left
   ·intro w'; go_simp; with_reducible rfl
   rotate_left; · simp only [Act.put, List.setIfInBounds_toArray, List.set_cons_zero, List.set_cons_succ, i64_w, i32_w]; rfl
   refine pu (i := 7) (N := some 65) (v := ?_) (a' := ?_) rfl rfl (by kernel_rfl) (fun _ _ _ h => h) (.inl ⟨by rfl, ?_⟩) ?_ ?_; rotate_left
   ·intro w'; go_simp; with_reducible rfl
   rotate_left; · simp only [Act.put, List.setIfInBounds_toArray, List.set_cons_zero, List.set_cons_succ, i64_w, i32_w]; rfl
   refine tu (i := 1) (N := some 59) (v := ?_) (a' := ?_) rfl rfl (by kernel_rfl) (fun _ _ _ h => h) (.inl ⟨by rfl, ?_⟩) hHeld ?_ ?_; rotate_left
   ·rintro w' ⟨s0, s1, s2, s3, s4, s5⟩; go_simp; with_reducible rfl
   rotate_left; · simp only [Act.put, List.setIfInBounds_toArray, List.set_cons_zero, List.set_cons_succ, i64_w, i32_w]; rfl
   refine pu (i := 3) (N := some 61) (v := ?_) (a' := ?_) rfl rfl (by kernel_rfl) (fun _ _ _ h => h) (.inl ⟨by rfl, ?_⟩) ?_ ?_; rotate_left
   ·intro w'; go_simp; with_reducible rfl
   rotate_left; · simp only [Act.put, List.setIfInBounds_toArray, List.set_cons_zero, List.set_cons_succ, i64_w, i32_w]; rfl
   refine tu (i := 4) (N := some 62) (v := ?_) (a' := ?_) rfl rfl (by kernel_rfl) (fun _ _ _ h => h) (.inl ⟨by rfl, ?_⟩) hHeld ?_ ?_; rotate_left
   ·rintro w' ⟨s0, s1, s2, s3, s4, s5⟩; go_simp; with_reducible rfl
   rotate_left; · simp only [Act.put, List.setIfInBounds_toArray, List.set_cons_zero, List.set_cons_succ, i64_w, i32_w]; rfl
   refine tu (i := 6) (N := some 64) (v := ?_) (a' := ?_) rfl rfl (by kernel_rfl) (fun _ _ _ h => h) (.inl ⟨by rfl, ?_⟩) hHeld ?_ ?_; rotate_left
   ·rintro w' ⟨s0, s1, s2, s3, s4, s5⟩; go_simp; with_reducible rfl
   rotate_left; · simp only [Act.put, List.setIfInBounds_toArray, List.set_cons_zero, List.set_cons_succ, i64_w, i32_w]; rfl
   refine pu (i := 8) (N := some 66) (v := ?_) (a' := ?_) rfl rfl (by kernel_rfl) (fun _ _ _ h => h) (.inl ⟨by rfl, ?_⟩) ?_ ?_; rotate_left
   ·intro w'; go_simp; with_reducible rfl
   rotate_left; · simp only [Act.put, List.setIfInBounds_toArray, List.set_cons_zero, List.set_cons_succ, i64_w, i32_w]; rfl
   refine tu (i := 9) (N := some 67) (v := ?_) (a' := ?_) rfl rfl (by kernel_rfl) (fun _ _ _ h => h) (.inl ⟨by rfl, ?_⟩) hHeld ?_ ?_; rotate_left
   ·rintro w' ⟨s0, s1, s2, s3, s4, s5⟩; go_simp; with_reducible rfl
   rotate_left; · simp only [Act.put, List.setIfInBounds_toArray, List.set_cons_zero, List.set_cons_succ, i64_w, i32_w]; rfl
   refine one_ (i := 10) (N := some 68) #[true, true, true, true, true, true, true, true, true, true, true, false] rfl rfl (by kernel_rfl) (by decide) (fun K hK => ?_)
   refine goes_ Tryd.func21 (by kernel_rfl) rfl #[.agg #[.slice P0 x.f0.length p0c, .slice P1 x.f1.length p1c], .agg #[.slice Q0 x.f0.length q0c, .slice Q1 x.f1.length q1c]] (by rfl) rfl rfl (by simp only [List.map_toArray, List.map_cons, List.map_nil]; rfl) ?_
   with_reducible refine (sameType_eq (Kd.C_below U0.out BX0.out) u0 (Kd.C_below U1.out BX0.out) u1 (Kd.C_below V0.out BX0.out) v0 (Kd.C_below V1.out BX0.out) v1).mono ?_
   rintro e u0w ⟨rfl, hb⟩
   refine ⟨_, rfl, ?_⟩
   have BX1 := am (BX0.out.trans (hb.mono BX0.out.size))
   clear hb BX0
   refine hK.out _ _ ⟨pw_cell_below BX1.out y, pw_cell_below BX1.out z, pw_cell_below BX1.out a0, pw_cell_below BX1.out a1, pw_cell_below BX1.out b0, pw_cell_below BX1.out b1⟩ (fun hHeld => ?_)
   clear hK K
   refine norm_ (a' := ?_) ?_ ?_
   rotate_left
   ·show Act.put _ (some 68) _ = _
    simp only [Act.put, List.setIfInBounds_toArray, List.set_cons_zero, List.set_cons_succ, i64_w, i32_w]
    rfl
   refine pu (i := 11) (N := some 69) (v := ?_) (a' := ?_) rfl rfl (by kernel_rfl) (fun _ _ _ h => h) (.inl ⟨by rfl, ?_⟩) ?_ ?_; rotate_left
   ·intro w'; go_simp; with_reducible rfl
   rotate_left; · simp only [Act.put, List.setIfInBounds_toArray, List.set_cons_zero, List.set_cons_succ, i64_w, i32_w]; rfl
   refine done_ (by kernel_rfl) ?_
   
   go_wp2
   go_roundg (m.types.length - (i + 1))
   case measure => have := I0.out; have := HLT.out; omega
   case rel => exact ⟨i + 1, by have := HLT.out; omega, by go_num, blk_below' K1.out BX1.out, blk_below' K2.out BX1.out, BW.out.trans (BX1.out.mono BW.out.size)⟩
  ·have dl : decide (i < m.types.length) = false := decide_eq_false hlt
   have dl2 : decide ((i : Int) < (m.types.length : Int)) = false := decide_eq_false (by omega)
   have y : wr.cell? ⟨g1, 0, none⟩ = some (.slice A0 m.types.length c0) := blk_cell K1.out 0
   clear hlt I0
   go_wp2
   go_loopg [6] m.imports.length (fun n v6 wr => ∃ i : Nat, i + n = m.imports.length ∧ v6 = .int .i64 i ∧ wr.heap[g1]? = some (.cells #[.slice A0 m.types.length c0, .slice A1 m.imports.length c1, .slice A2 m.funcs.length c2, .slice A3 m.tables.length c3, .slice A4 m.mems.length c4, .slice A5 m.globals.length c5, .slice A6 m.exports.length c6, .int .i64 m.start, .slice A8 m.elems.length c8, .slice A9 m.codes.length c9, .slice A10 m.datas.length c10] 33 (0, 0)) ∧ wr.heap[g2]? = some (.cells #[.slice B0 m.types.length d0, .slice B1 m.imports.length d1, .slice B2 m.funcs.length d2, .slice B3 m.tables.length d3, .slice B4 m.mems.length d4, .slice B5 m.globals.length d5, .slice B6 m.exports.length d6, .int .i64 m.start, .slice B8 m.elems.length d8, .slice B9 m.codes.length d9, .slice B10 m.datas.length d10] 33 (0, 0)) ∧ Below W.heap.size W wr)
   case atStart => exact ⟨0, by omega, rfl, K1.out, K2.out, BW.out⟩
   case round =>
    obtain ⟨i, hi, rfl, h1, h2, h3⟩ := hrel
    clear K1 K2 BW
    have I0 := am hi
    have K1 := am h1
    have K2 := am h2
    have BW := am h3
    clear hi h1 h2 h3
    by_cases hlt : i < m.imports.length
    ·have dl : decide (i < m.imports.length) = true := decide_eq_true hlt
     have dl2 : decide ((i : Int) < (m.imports.length : Int)) = true := decide_eq_true (by omega)
     have hi0 : (0 : Int) ≤ (i : Int) := by omega
     have HLT := am hlt
     have y : wr.cell? ⟨g1, 1, none⟩ = some (.slice A1 m.imports.length c1) := blk_cell K1.out 1
     have z : wr.cell? ⟨g2, 1, none⟩ = some (.slice B1 m.imports.length d1) := blk_cell K2.out 1
     obtain ⟨ad, eA, a0, a1, a2, a3, a4, a5, a6⟩ := at_T92 (Kd.C_below HC1.out BW.out) (i : Int) (by omega) (by omega)
     obtain ⟨bd, eB, b0, b1, b2, b3, b4, b5, b6⟩ := at_T92 (Kd.C_below HD1.out BW.out) (i : Int) (by omega) (by omega)
     subst eA eB
     have ML : (m.imports.length : Int) ≤ 9223372036854775807 := MX1.out
     have w1 : wrap64 ((i : Int) + 1) = (i : Int) + 1 := by unfold wrap64; omega
     generalize rd_T92 m.imports (i : Int) = x at *
     simp only [Int.toNat_natCast] at a0 a1 a2 a3 a4 a5 a6 b0 b1 b2 b3 b4 b5 b6
     have BX0 : Aside0 (Below wr.heap.size wr wr.drew) := ⟨below_drew (Below.refl _ _)⟩
     go_wp2
     refine start_ (n := 11) (S := fun w' => w'.cell? ⟨g1, 1, none⟩ = some (.slice (some ad) m.imports.length c1) ∧ w'.cell? ⟨g2, 1, none⟩ = some (.slice (some bd) m.imports.length d1) ∧ w'.cell? (ad.add (i * 7)) = some (.string x.f0) ∧ w'.cell? ⟨(ad.add (i * 7)).block, (ad.add (i * 7)).off + 1, none⟩ = some (.string x.f1) ∧ w'.cell? ⟨(ad.add (i * 7)).block, (ad.add (i * 7)).off + 2, none⟩ = some (.int .i64 x.f2) ∧ w'.cell? ⟨(ad.add (i * 7)).block, (ad.add (i * 7)).off + 3, none⟩ = some (.int .i64 x.f3) ∧ w'.cell? ⟨(ad.add (i * 7)).block, (ad.add (i * 7)).off + 4, none⟩ = some (.bool x.f4) ∧ w'.cell? ⟨(ad.add (i * 7)).block, (ad.add (i * 7)).off + 5, none⟩ = some (.int .i64 x.f5.f0) ∧ w'.cell? ⟨(ad.add (i * 7)).block, (ad.add (i * 7)).off + 6, none⟩ = some (.int .i64 x.f5.f1) ∧ w'.cell? (bd.add (i * 7)) = some (.string x.f0) ∧ w'.cell? ⟨(bd.add (i * 7)).block, (bd.add (i * 7)).off + 1, none⟩ = some (.string x.f1) ∧ w'.cell? ⟨(bd.add (i * 7)).block, (bd.add (i * 7)).off + 2, none⟩ = some (.int .i64 x.f2) ∧ w'.cell? ⟨(bd.add (i * 7)).block, (bd.add (i * 7)).off + 3, none⟩ = some (.int .i64 x.f3) ∧ w'.cell? ⟨(bd.add (i * 7)).block, (bd.add (i * 7)).off + 4, none⟩ = some (.bool x.f4) ∧ w'.cell? ⟨(bd.add (i * 7)).block, (bd.add (i * 7)).off + 5, none⟩ = some (.int .i64 x.f5.f0) ∧ w'.cell? ⟨(bd.add (i * 7)).block, (bd.add (i * 7)).off + 6, none⟩ = some (.int .i64 x.f5.f1)) (ds := []) #[false, false, false, false, false, false, false, false, false, false, false] (by kernel_rfl) rfl rfl ⟨y, z, a0, a1, a2, a3, a4, a5, a6, b0, b1, b2, b3, b4, b5, b6⟩ (fun hHeld => ?_)
     refine pu (i := 0) (N := some 77) (v := ?_) (a' := ?_) rfl rfl (by kernel_rfl) (fun _ _ _ h => h) (.inl ⟨by rfl, ?_⟩) ?_ ?_; rotate_left
     ·intro w'; go_simp; with_reducible rfl
     rotate_left; · simp only [Act.put, List.setIfInBounds_toArray, List.set_cons_zero, List.set_cons_succ, i64_w, i32_w]; rfl
     refine pu (i := 2) (N := some 79) (v := ?_) (a' := ?_) rfl rfl (by kernel_rfl) (fun _ _ _ h => h) (.inl ⟨by rfl, ?_⟩) ?_ ?_; rotate_left
     ·intro w'; go_simp; with_reducible rfl
     rotate_left; · simp only [Act.put, List.setIfInBounds_toArray, List.set_cons_zero, List.set_cons_succ, i64_w, i32_w]; rfl
     refine pu (i := 5) (N := some 82) (v := ?_) (a' := ?_) rfl rfl (by kernel_rfl) (fun _ _ _ h => h) (.inl ⟨by rfl, ?_⟩) ?_ ?_; rotate_left
     ·intro w'; go_simp; with_reducible rfl
     rotate_left; · simp only [Act.put, List.setIfInBounds_toArray, List.set_cons_zero, List.set_cons_succ, i64_w, i32_w]; rfl
     refine pu (i := 7) (N := some 84) (v := ?_) (a' := ?_) rfl rfl (by kernel_rfl) (fun _ _ _ h => h) (.inl ⟨by rfl, ?_⟩) ?_ ?_; rotate_left
     ·intro w'; go_simp; with_reducible rfl
     rotate_left; · simp only [Act.put, List.setIfInBounds_toArray, List.set_cons_zero, List.set_cons_succ, i64_w, i32_w]; rfl
     refine tu (i := 1) (N := some 78) (v := ?_) (a' := ?_) rfl rfl (by kernel_rfl) (fun _ _ _ h => h) (.inl ⟨by rfl, ?_⟩) hHeld ?_ ?_; rotate_left
     ·rintro w' ⟨s0, s1, s2, s3, s4, s5, s6, s7, s8, s9, s10, s11, s12, s13, s14, s15⟩; go_simp; with_reducible rfl
     rotate_left; · simp only [Act.put, List.setIfInBounds_toArray, List.set_cons_zero, List.set_cons_succ, i64_w, i32_w]; rfl
     refine pu (i := 3) (N := some 80) (v := ?_) (a' := ?_) rfl rfl (by kernel_rfl) (fun _ _ _ h => h) (.inl ⟨by rfl, ?_⟩) ?_ ?_; rotate_left
     ·intro w'; go_simp; with_reducible rfl
     rotate_left; · simp only [Act.put, List.setIfInBounds_toArray, List.set_cons_zero, List.set_cons_succ, i64_w, i32_w]; rfl
     refine tu (i := 4) (N := some 81) (v := ?_) (a' := ?_) rfl rfl (by kernel_rfl) (fun _ _ _ h => h) (.inl ⟨by rfl, ?_⟩) hHeld ?_ ?_; rotate_left
     ·rintro w' ⟨s0, s1, s2, s3, s4, s5, s6, s7, s8, s9, s10, s11, s12, s13, s14, s15⟩; go_simp; with_reducible rfl
     rotate_left; · simp only [Act.put, List.setIfInBounds_toArray, List.set_cons_zero, List.set_cons_succ, i64_w, i32_w]; rfl
     refine tu (i := 6) (N := some 83) (v := ?_) (a' := ?_) rfl rfl (by kernel_rfl) (fun _ _ _ h => h) (.inl ⟨by rfl, ?_⟩) hHeld ?_ ?_; rotate_left
     ·rintro w' ⟨s0, s1, s2, s3, s4, s5, s6, s7, s8, s9, s10, s11, s12, s13, s14, s15⟩; go_simp; with_reducible rfl
     rotate_left; · simp only [Act.put, List.setIfInBounds_toArray, List.set_cons_zero, List.set_cons_succ, i64_w, i32_w]; rfl
     refine pu (i := 8) (N := some 85) (v := ?_) (a' := ?_) rfl rfl (by kernel_rfl) (fun _ _ _ h => h) (.inl ⟨by rfl, ?_⟩) ?_ ?_; rotate_left
     ·intro w'; go_simp; with_reducible rfl
     rotate_left; · simp only [Act.put, List.setIfInBounds_toArray, List.set_cons_zero, List.set_cons_succ, i64_w, i32_w]; rfl
     refine tu (i := 9) (N := some 86) (v := ?_) (a' := ?_) rfl rfl (by kernel_rfl) (fun _ _ _ h => h) (.inl ⟨by rfl, ?_⟩) hHeld ?_ ?_; rotate_left
     ·rintro w' ⟨s0, s1, s2, s3, s4, s5, s6, s7, s8, s9, s10, s11, s12, s13, s14, s15⟩; go_simp; with_reducible rfl
     rotate_left; · simp only [Act.put, List.setIfInBounds_toArray, List.set_cons_zero, List.set_cons_succ, i64_w, i32_w]; rfl
     refine pu (i := 10) (N := some 87) (v := ?_) (a' := ?_) rfl rfl (by kernel_rfl) (fun _ _ _ h => h) (.inl ⟨by rfl, ?_⟩) ?_ ?_; rotate_left
     ·intro w'; go_simp; with_reducible rfl
     rotate_left; · simp only [Act.put, List.setIfInBounds_toArray, List.set_cons_zero, List.set_cons_succ, i64_w, i32_w]; rfl
     refine done_ (by kernel_rfl) ?_
     
     go_wp2
     go_roundg (m.imports.length - (i + 1))
     case measure => have := I0.out; have := HLT.out; omega
     case rel => exact ⟨i + 1, by have := HLT.out; omega, by go_num, blk_below' K1.out BX0.out, blk_below' K2.out BX0.out, BW.out.trans (BX0.out.mono BW.out.size)⟩
    ·have dl : decide (i < m.imports.length) = false := decide_eq_false hlt
     have dl2 : decide ((i : Int) < (m.imports.length : Int)) = false := decide_eq_false (by omega)
     have y : wr.cell? ⟨g1, 1, none⟩ = some (.slice A1 m.imports.length c1) := blk_cell K1.out 1
     clear hlt I0
     go_wp2
     go_loopg [7] m.tables.length (fun n v7 wr => ∃ i : Nat, i + n = m.tables.length ∧ v7 = .int .i64 i ∧ wr.heap[g1]? = some (.cells #[.slice A0 m.types.length c0, .slice A1 m.imports.length c1, .slice A2 m.funcs.length c2, .slice A3 m.tables.length c3, .slice A4 m.mems.length c4, .slice A5 m.globals.length c5, .slice A6 m.exports.length c6, .int .i64 m.start, .slice A8 m.elems.length c8, .slice A9 m.codes.length c9, .slice A10 m.datas.length c10] 33 (0, 0)) ∧ wr.heap[g2]? = some (.cells #[.slice B0 m.types.length d0, .slice B1 m.imports.length d1, .slice B2 m.funcs.length d2, .slice B3 m.tables.length d3, .slice B4 m.mems.length d4, .slice B5 m.globals.length d5, .slice B6 m.exports.length d6, .int .i64 m.start, .slice B8 m.elems.length d8, .slice B9 m.codes.length d9, .slice B10 m.datas.length d10] 33 (0, 0)) ∧ Below W.heap.size W wr)
     case atStart => exact ⟨0, by omega, rfl, K1.out, K2.out, BW.out⟩
     case round =>
      obtain ⟨i, hi, rfl, h1, h2, h3⟩ := hrel
      clear K1 K2 BW
      have I0 := am hi
      have K1 := am h1
      have K2 := am h2
      have BW := am h3
      clear hi h1 h2 h3
      by_cases hlt : i < m.tables.length
      ·have dl : decide (i < m.tables.length) = true := decide_eq_true hlt
       have dl2 : decide ((i : Int) < (m.tables.length : Int)) = true := decide_eq_true (by omega)
       have hi0 : (0 : Int) ≤ (i : Int) := by omega
       have HLT := am hlt
       have y : wr.cell? ⟨g1, 3, none⟩ = some (.slice A3 m.tables.length c3) := blk_cell K1.out 3
       have z : wr.cell? ⟨g2, 3, none⟩ = some (.slice B3 m.tables.length d3) := blk_cell K2.out 3
       obtain ⟨ad, eA, a0, a1⟩ := at_T54 (Kd.C_below HC3.out BW.out) (i : Int) (by omega) (by omega)
       obtain ⟨bd, eB, b0, b1⟩ := at_T54 (Kd.C_below HD3.out BW.out) (i : Int) (by omega) (by omega)
       subst eA eB
       have ML : (m.tables.length : Int) ≤ 9223372036854775807 := MX3.out
       have w1 : wrap64 ((i : Int) + 1) = (i : Int) + 1 := by unfold wrap64; omega
       generalize rd_T54 m.tables (i : Int) = x at *
       simp only [Int.toNat_natCast] at a0 a1 b0 b1
       have BX0 : Aside0 (Below wr.heap.size wr wr.drew) := ⟨below_drew (Below.refl _ _)⟩
       go_wp2
       refine start_ (n := 11) (S := fun w' => w'.cell? ⟨g1, 3, none⟩ = some (.slice (some ad) m.tables.length c3) ∧ w'.cell? ⟨g2, 3, none⟩ = some (.slice (some bd) m.tables.length d3) ∧ w'.cell? (ad.add (i * 2)) = some (.int .i64 x.f0) ∧ w'.cell? ⟨(ad.add (i * 2)).block, (ad.add (i * 2)).off + 1, none⟩ = some (.int .i64 x.f1) ∧ w'.cell? (bd.add (i * 2)) = some (.int .i64 x.f0) ∧ w'.cell? ⟨(bd.add (i * 2)).block, (bd.add (i * 2)).off + 1, none⟩ = some (.int .i64 x.f1)) (ds := []) #[false, false, false, false, false, false, false, false, false, false, false] (by kernel_rfl) rfl rfl ⟨y, z, a0, a1, b0, b1⟩ (fun hHeld => ?_)
       refine pu (i := 0) (N := some 95) (v := ?_) (a' := ?_) rfl rfl (by kernel_rfl) (fun _ _ _ h => h) (.inl ⟨by rfl, ?_⟩) ?_ ?_; rotate_left
       ·intro w'; go_simp; with_reducible rfl
       rotate_left; · simp only [Act.put, List.setIfInBounds_toArray, List.set_cons_zero, List.set_cons_succ, i64_w, i32_w]; rfl
       refine pu (i := 2) (N := some 97) (v := ?_) (a' := ?_) rfl rfl (by kernel_rfl) (fun _ _ _ h => h) (.inl ⟨by rfl, ?_⟩) ?_ ?_; rotate_left
       ·intro w'; go_simp; with_reducible rfl
       rotate_left; · simp only [Act.put, List.setIfInBounds_toArray, List.set_cons_zero, List.set_cons_succ, i64_w, i32_w]; rfl
       refine pu (i := 5) (N := some 100) (v := ?_) (a' := ?_) rfl rfl (by kernel_rfl) (fun _ _ _ h => h) (.inl ⟨by rfl, ?_⟩) ?_ ?_; rotate_left
       ·intro w'; go_simp; with_reducible rfl
       rotate_left; · simp only [Act.put, List.setIfInBounds_toArray, List.set_cons_zero, List.set_cons_succ, i64_w, i32_w]; rfl
       refine pu (i := 7) (N := some 102) (v := ?_) (a' := ?_) rfl rfl (by kernel_rfl) (fun _ _ _ h => h) (.inl ⟨by rfl, ?_⟩) ?_ ?_; rotate_left
       ·intro w'; go_simp; with_reducible rfl
       rotate_left; · simp only [Act.put, List.setIfInBounds_toArray, List.set_cons_zero, List.set_cons_succ, i64_w, i32_w]; rfl
       refine tu (i := 1) (N := some 96) (v := ?_) (a' := ?_) rfl rfl (by kernel_rfl) (fun _ _ _ h => h) (.inl ⟨by rfl, ?_⟩) hHeld ?_ ?_; rotate_left
       ·rintro w' ⟨s0, s1, s2, s3, s4, s5⟩; go_simp; with_reducible rfl
       rotate_left; · simp only [Act.put, List.setIfInBounds_toArray, List.set_cons_zero, List.set_cons_succ, i64_w, i32_w]; rfl
       refine pu (i := 3) (N := some 98) (v := ?_) (a' := ?_) rfl rfl (by kernel_rfl) (fun _ _ _ h => h) (.inl ⟨by rfl, ?_⟩) ?_ ?_; rotate_left
       ·intro w'; go_simp; with_reducible rfl
       rotate_left; · simp only [Act.put, List.setIfInBounds_toArray, List.set_cons_zero, List.set_cons_succ, i64_w, i32_w]; rfl
       refine tu (i := 4) (N := some 99) (v := ?_) (a' := ?_) rfl rfl (by kernel_rfl) (fun _ _ _ h => h) (.inl ⟨by rfl, ?_⟩) hHeld ?_ ?_; rotate_left
       ·rintro w' ⟨s0, s1, s2, s3, s4, s5⟩; go_simp; with_reducible rfl
       rotate_left; · simp only [Act.put, List.setIfInBounds_toArray, List.set_cons_zero, List.set_cons_succ, i64_w, i32_w]; rfl
       refine tu (i := 6) (N := some 101) (v := ?_) (a' := ?_) rfl rfl (by kernel_rfl) (fun _ _ _ h => h) (.inl ⟨by rfl, ?_⟩) hHeld ?_ ?_; rotate_left
       ·rintro w' ⟨s0, s1, s2, s3, s4, s5⟩; go_simp; with_reducible rfl
       rotate_left; · simp only [Act.put, List.setIfInBounds_toArray, List.set_cons_zero, List.set_cons_succ, i64_w, i32_w]; rfl
       refine pu (i := 8) (N := some 103) (v := ?_) (a' := ?_) rfl rfl (by kernel_rfl) (fun _ _ _ h => h) (.inl ⟨by rfl, ?_⟩) ?_ ?_; rotate_left
       ·intro w'; go_simp; with_reducible rfl
       rotate_left; · simp only [Act.put, List.setIfInBounds_toArray, List.set_cons_zero, List.set_cons_succ, i64_w, i32_w]; rfl
       refine tu (i := 9) (N := some 104) (v := ?_) (a' := ?_) rfl rfl (by kernel_rfl) (fun _ _ _ h => h) (.inl ⟨by rfl, ?_⟩) hHeld ?_ ?_; rotate_left
       ·rintro w' ⟨s0, s1, s2, s3, s4, s5⟩; go_simp; with_reducible rfl
       rotate_left; · simp only [Act.put, List.setIfInBounds_toArray, List.set_cons_zero, List.set_cons_succ, i64_w, i32_w]; rfl
       refine pu (i := 10) (N := some 105) (v := ?_) (a' := ?_) rfl rfl (by kernel_rfl) (fun _ _ _ h => h) (.inl ⟨by rfl, ?_⟩) ?_ ?_; rotate_left
       ·intro w'; go_simp; with_reducible rfl
       rotate_left; · simp only [Act.put, List.setIfInBounds_toArray, List.set_cons_zero, List.set_cons_succ, i64_w, i32_w]; rfl
       refine done_ (by kernel_rfl) ?_
       
       go_wp2
       go_roundg (m.tables.length - (i + 1))
       case measure => have := I0.out; have := HLT.out; omega
       case rel => exact ⟨i + 1, by have := HLT.out; omega, by go_num, blk_below' K1.out BX0.out, blk_below' K2.out BX0.out, BW.out.trans (BX0.out.mono BW.out.size)⟩
      ·have dl : decide (i < m.tables.length) = false := decide_eq_false hlt
       have dl2 : decide ((i : Int) < (m.tables.length : Int)) = false := decide_eq_false (by omega)
       have y : wr.cell? ⟨g1, 3, none⟩ = some (.slice A3 m.tables.length c3) := blk_cell K1.out 3
       clear hlt I0
       go_wp2
       go_loopg [8] m.mems.length (fun n v8 wr => ∃ i : Nat, i + n = m.mems.length ∧ v8 = .int .i64 i ∧ wr.heap[g1]? = some (.cells #[.slice A0 m.types.length c0, .slice A1 m.imports.length c1, .slice A2 m.funcs.length c2, .slice A3 m.tables.length c3, .slice A4 m.mems.length c4, .slice A5 m.globals.length c5, .slice A6 m.exports.length c6, .int .i64 m.start, .slice A8 m.elems.length c8, .slice A9 m.codes.length c9, .slice A10 m.datas.length c10] 33 (0, 0)) ∧ wr.heap[g2]? = some (.cells #[.slice B0 m.types.length d0, .slice B1 m.imports.length d1, .slice B2 m.funcs.length d2, .slice B3 m.tables.length d3, .slice B4 m.mems.length d4, .slice B5 m.globals.length d5, .slice B6 m.exports.length d6, .int .i64 m.start, .slice B8 m.elems.length d8, .slice B9 m.codes.length d9, .slice B10 m.datas.length d10] 33 (0, 0)) ∧ Below W.heap.size W wr)
       case atStart => exact ⟨0, by omega, rfl, K1.out, K2.out, BW.out⟩
       case round =>
        obtain ⟨i, hi, rfl, h1, h2, h3⟩ := hrel
        clear K1 K2 BW
        have I0 := am hi
        have K1 := am h1
        have K2 := am h2
        have BW := am h3
        clear hi h1 h2 h3
        by_cases hlt : i < m.mems.length
        ·have dl : decide (i < m.mems.length) = true := decide_eq_true hlt
         have dl2 : decide ((i : Int) < (m.mems.length : Int)) = true := decide_eq_true (by omega)
         have hi0 : (0 : Int) ≤ (i : Int) := by omega
         have HLT := am hlt
         have y : wr.cell? ⟨g1, 4, none⟩ = some (.slice A4 m.mems.length c4) := blk_cell K1.out 4
         have z : wr.cell? ⟨g2, 4, none⟩ = some (.slice B4 m.mems.length d4) := blk_cell K2.out 4
         obtain ⟨ad, eA, a0, a1⟩ := at_T54 (Kd.C_below HC4.out BW.out) (i : Int) (by omega) (by omega)
         obtain ⟨bd, eB, b0, b1⟩ := at_T54 (Kd.C_below HD4.out BW.out) (i : Int) (by omega) (by omega)
         subst eA eB
         have ML : (m.mems.length : Int) ≤ 9223372036854775807 := MX4.out
         have w1 : wrap64 ((i : Int) + 1) = (i : Int) + 1 := by unfold wrap64; omega
         generalize rd_T54 m.mems (i : Int) = x at *
         simp only [Int.toNat_natCast] at a0 a1 b0 b1
         have BX0 : Aside0 (Below wr.heap.size wr wr.drew) := ⟨below_drew (Below.refl _ _)⟩
         go_wp2
         refine start_ (n := 11) (S := fun w' => w'.cell? ⟨g1, 4, none⟩ = some (.slice (some ad) m.mems.length c4) ∧ w'.cell? ⟨g2, 4, none⟩ = some (.slice (some bd) m.mems.length d4) ∧ w'.cell? (ad.add (i * 2)) = some (.int .i64 x.f0) ∧ w'.cell? ⟨(ad.add (i * 2)).block, (ad.add (i * 2)).off + 1, none⟩ = some (.int .i64 x.f1) ∧ w'.cell? (bd.add (i * 2)) = some (.int .i64 x.f0) ∧ w'.cell? ⟨(bd.add (i * 2)).block, (bd.add (i * 2)).off + 1, none⟩ = some (.int .i64 x.f1)) (ds := []) #[false, false, false, false, false, false, false, false, false, false, false] (by kernel_rfl) rfl rfl ⟨y, z, a0, a1, b0, b1⟩ (fun hHeld => ?_)
         refine pu (i := 0) (N := some 113) (v := ?_) (a' := ?_) rfl rfl (by kernel_rfl) (fun _ _ _ h => h) (.inl ⟨by rfl, ?_⟩) ?_ ?_; rotate_left
         ·intro w'; go_simp; with_reducible rfl
         rotate_left; · simp only [Act.put, List.setIfInBounds_toArray, List.set_cons_zero, List.set_cons_succ, i64_w, i32_w]; rfl
         refine pu (i := 2) (N := some 115) (v := ?_) (a' := ?_) rfl rfl (by kernel_rfl) (fun _ _ _ h => h) (.inl ⟨by rfl, ?_⟩) ?_ ?_; rotate_left
         ·intro w'; go_simp; with_reducible rfl
         rotate_left; · simp only [Act.put, List.setIfInBounds_toArray, List.set_cons_zero, List.set_cons_succ, i64_w, i32_w]; rfl
         refine pu (i := 5) (N := some 118) (v := ?_) (a' := ?_) rfl rfl (by kernel_rfl) (fun _ _ _ h => h) (.inl ⟨by rfl, ?_⟩) ?_ ?_; rotate_left
         ·intro w'; go_simp; with_reducible rfl
         rotate_left; · simp only [Act.put, List.setIfInBounds_toArray, List.set_cons_zero, List.set_cons_succ, i64_w, i32_w]; rfl
         refine pu (i := 7) (N := some 120) (v := ?_) (a' := ?_) rfl rfl (by kernel_rfl) (fun _ _ _ h => h) (.inl ⟨by rfl, ?_⟩) ?_ ?_; rotate_left
         ·intro w'; go_simp; with_reducible rfl
         rotate_left; · simp only [Act.put, List.setIfInBounds_toArray, List.set_cons_zero, List.set_cons_succ, i64_w, i32_w]; rfl
         refine tu (i := 1) (N := some 114) (v := ?_) (a' := ?_) rfl rfl (by kernel_rfl) (fun _ _ _ h => h) (.inl ⟨by rfl, ?_⟩) hHeld ?_ ?_; rotate_left
         ·rintro w' ⟨s0, s1, s2, s3, s4, s5⟩; go_simp; with_reducible rfl
         rotate_left; · simp only [Act.put, List.setIfInBounds_toArray, List.set_cons_zero, List.set_cons_succ, i64_w, i32_w]; rfl
         refine pu (i := 3) (N := some 116) (v := ?_) (a' := ?_) rfl rfl (by kernel_rfl) (fun _ _ _ h => h) (.inl ⟨by rfl, ?_⟩) ?_ ?_; rotate_left
         ·intro w'; go_simp; with_reducible rfl
         rotate_left; · simp only [Act.put, List.setIfInBounds_toArray, List.set_cons_zero, List.set_cons_succ, i64_w, i32_w]; rfl
         refine tu (i := 4) (N := some 117) (v := ?_) (a' := ?_) rfl rfl (by kernel_rfl) (fun _ _ _ h => h) (.inl ⟨by rfl, ?_⟩) hHeld ?_ ?_; rotate_left
         ·rintro w' ⟨s0, s1, s2, s3, s4, s5⟩; go_simp; with_reducible rfl
         rotate_left; · simp only [Act.put, List.setIfInBounds_toArray, List.set_cons_zero, List.set_cons_succ, i64_w, i32_w]; rfl
         refine tu (i := 6) (N := some 119) (v := ?_) (a' := ?_) rfl rfl (by kernel_rfl) (fun _ _ _ h => h) (.inl ⟨by rfl, ?_⟩) hHeld ?_ ?_; rotate_left
         ·rintro w' ⟨s0, s1, s2, s3, s4, s5⟩; go_simp; with_reducible rfl
         rotate_left; · simp only [Act.put, List.setIfInBounds_toArray, List.set_cons_zero, List.set_cons_succ, i64_w, i32_w]; rfl
         refine pu (i := 8) (N := some 121) (v := ?_) (a' := ?_) rfl rfl (by kernel_rfl) (fun _ _ _ h => h) (.inl ⟨by rfl, ?_⟩) ?_ ?_; rotate_left
         ·intro w'; go_simp; with_reducible rfl
         rotate_left; · simp only [Act.put, List.setIfInBounds_toArray, List.set_cons_zero, List.set_cons_succ, i64_w, i32_w]; rfl
         refine tu (i := 9) (N := some 122) (v := ?_) (a' := ?_) rfl rfl (by kernel_rfl) (fun _ _ _ h => h) (.inl ⟨by rfl, ?_⟩) hHeld ?_ ?_; rotate_left
         ·rintro w' ⟨s0, s1, s2, s3, s4, s5⟩; go_simp; with_reducible rfl
         rotate_left; · simp only [Act.put, List.setIfInBounds_toArray, List.set_cons_zero, List.set_cons_succ, i64_w, i32_w]; rfl
         refine pu (i := 10) (N := some 123) (v := ?_) (a' := ?_) rfl rfl (by kernel_rfl) (fun _ _ _ h => h) (.inl ⟨by rfl, ?_⟩) ?_ ?_; rotate_left
         ·intro w'; go_simp; with_reducible rfl
         rotate_left; · simp only [Act.put, List.setIfInBounds_toArray, List.set_cons_zero, List.set_cons_succ, i64_w, i32_w]; rfl
         refine done_ (by kernel_rfl) ?_
         
         go_wp2
         go_roundg (m.mems.length - (i + 1))
         case measure => have := I0.out; have := HLT.out; omega
         case rel => exact ⟨i + 1, by have := HLT.out; omega, by go_num, blk_below' K1.out BX0.out, blk_below' K2.out BX0.out, BW.out.trans (BX0.out.mono BW.out.size)⟩
        ·have dl : decide (i < m.mems.length) = false := decide_eq_false hlt
         have dl2 : decide ((i : Int) < (m.mems.length : Int)) = false := decide_eq_false (by omega)
         have y : wr.cell? ⟨g1, 4, none⟩ = some (.slice A4 m.mems.length c4) := blk_cell K1.out 4
         clear hlt I0
         go_wp2
         go_ret
         exact ⟨rfl, BW.out⟩
set_option maxHeartbeats 16000000 in
set_option maxRecDepth 100000 in
theorem same_c {W : World} {m : Mod} {A0 B0 A1 B1 A2 B2 A3 B3 A4 B4 A5 B5 A6 B6 A8 B8 A9 B9 A10 B10 : Option Addr} {c0 d0 c1 d1 c2 d2 c3 d3 c4 d4 c5 d5 c6 d6 c8 d8 c9 d9 c10 d10 : Nat} (C0 : k51.C W A0 m.types.length m.types) (lc0 : m.types.length ≤ c0) (D0 : k51.C W B0 m.types.length m.types) (ld0 : m.types.length ≤ d0) (C1 : k92.C W A1 m.imports.length m.imports) (lc1 : m.imports.length ≤ c1) (D1 : k92.C W B1 m.imports.length m.imports) (ld1 : m.imports.length ≤ d1) (C2 : (Kd.int .i64).C W A2 m.funcs.length m.funcs) (lc2 : m.funcs.length ≤ c2) (D2 : (Kd.int .i64).C W B2 m.funcs.length m.funcs) (ld2 : m.funcs.length ≤ d2) (C3 : k54.C W A3 m.tables.length m.tables) (lc3 : m.tables.length ≤ c3) (D3 : k54.C W B3 m.tables.length m.tables) (ld3 : m.tables.length ≤ d3) (C4 : k54.C W A4 m.mems.length m.mems) (lc4 : m.mems.length ≤ c4) (D4 : k54.C W B4 m.mems.length m.mems) (ld4 : m.mems.length ≤ d4) (C5 : k72.C W A5 m.globals.length m.globals) (lc5 : m.globals.length ≤ c5) (D5 : k72.C W B5 m.globals.length m.globals) (ld5 : m.globals.length ≤ d5) (C6 : k75.C W A6 m.exports.length m.exports) (lc6 : m.exports.length ≤ c6) (D6 : k75.C W B6 m.exports.length m.exports) (ld6 : m.exports.length ≤ d6) (C8 : k77.C W A8 m.elems.length m.elems) (lc8 : m.elems.length ≤ c8) (D8 : k77.C W B8 m.elems.length m.elems) (ld8 : m.elems.length ≤ d8) (C9 : k57.C W A9 m.codes.length m.codes) (lc9 : m.codes.length ≤ c9) (D9 : k57.C W B9 m.codes.length m.codes) (ld9 : m.codes.length ≤ d9) (C10 : k80.C W A10 m.datas.length m.datas) (lc10 : m.datas.length ≤ c10) (D10 : k80.C W B10 m.datas.length m.datas) (ld10 : m.datas.length ≤ d10) :
  Calls Tryd.prog 16 #[.agg #[.slice A0 m.types.length c0, .slice A1 m.imports.length c1, .slice A2 m.funcs.length c2, .slice A3 m.tables.length c3, .slice A4 m.mems.length c4, .slice A5 m.globals.length c5, .slice A6 m.exports.length c6, .int .i64 m.start, .slice A8 m.elems.length c8, .slice A9 m.codes.length c9, .slice A10 m.datas.length c10], .agg #[.slice B0 m.types.length d0, .slice B1 m.imports.length d1, .slice B2 m.funcs.length d2, .slice B3 m.tables.length d3, .slice B4 m.mems.length d4, .slice B5 m.globals.length d5, .slice B6 m.exports.length d6, .int .i64 m.start, .slice B8 m.elems.length d8, .slice B9 m.codes.length d9, .slice B10 m.datas.length d10]] W fun e w' => e = .returned (.bool true) ∧ Below W.heap.size W w' := by
 have HC0 := am C0; have HD0 := am D0; have HL0 := am lc0; have HM0 := am ld0; have MX0 := am (show (m.types.length : Int) ≤ 9223372036854775807 by have := Kd.C_max C0; omega); clear C0 D0 lc0 ld0
 have HC1 := am C1; have HD1 := am D1; have HL1 := am lc1; have HM1 := am ld1; have MX1 := am (show (m.imports.length : Int) ≤ 9223372036854775807 by have := Kd.C_max C1; omega); clear C1 D1 lc1 ld1
 have HC2 := am C2; have HD2 := am D2; have HL2 := am lc2; have HM2 := am ld2; have MX2 := am (show (m.funcs.length : Int) ≤ 9223372036854775807 by have := Kd.C_max C2; omega); clear C2 D2 lc2 ld2
 have HC3 := am C3; have HD3 := am D3; have HL3 := am lc3; have HM3 := am ld3; have MX3 := am (show (m.tables.length : Int) ≤ 9223372036854775807 by have := Kd.C_max C3; omega); clear C3 D3 lc3 ld3
 have HC4 := am C4; have HD4 := am D4; have HL4 := am lc4; have HM4 := am ld4; have MX4 := am (show (m.mems.length : Int) ≤ 9223372036854775807 by have := Kd.C_max C4; omega); clear C4 D4 lc4 ld4
 have HC5 := am C5; have HD5 := am D5; have HL5 := am lc5; have HM5 := am ld5; have MX5 := am (show (m.globals.length : Int) ≤ 9223372036854775807 by have := Kd.C_max C5; omega); clear C5 D5 lc5 ld5
 have HC6 := am C6; have HD6 := am D6; have HL6 := am lc6; have HM6 := am ld6; have MX6 := am (show (m.exports.length : Int) ≤ 9223372036854775807 by have := Kd.C_max C6; omega); clear C6 D6 lc6 ld6
 have HC8 := am C8; have HD8 := am D8; have HL8 := am lc8; have HM8 := am ld8; have MX8 := am (show (m.elems.length : Int) ≤ 9223372036854775807 by have := Kd.C_max C8; omega); clear C8 D8 lc8 ld8
 have HC9 := am C9; have HD9 := am D9; have HL9 := am lc9; have HM9 := am ld9; have MX9 := am (show (m.codes.length : Int) ≤ 9223372036854775807 by have := Kd.C_max C9; omega); clear C9 D9 lc9 ld9
 have HC10 := am C10; have HD10 := am D10; have HL10 := am lc10; have HM10 := am ld10; have MX10 := am (show (m.datas.length : Int) ≤ 9223372036854775807 by have := Kd.C_max C10; omega); clear C10 D10 lc10 ld10
 go_enter Tryd.func16, Tryd.ntmps16
 go_wp2_with (first
  | ((with_reducible refine gate_dst (N := 2) rfl ?_); refine box_event ?hg (N := 2) ?hd (cs := #[.slice A0 m.types.length c0, .slice A1 m.imports.length c1, .slice A2 m.funcs.length c2, .slice A3 m.tables.length c3, .slice A4 m.mems.length c4, .slice A5 m.globals.length c5, .slice A6 m.exports.length c6, .int .i64 m.start, .slice A8 m.elems.length c8, .slice A9 m.codes.length c9, .slice A10 m.datas.length c10]) (t := 33) ?hr ?_; (case hd => rfl); (case hg => rfl); (case hr => first | (go_simp; done) | (go_simp; rfl)); intro g1 hgg1 w1 hA hb; have K1 := am hA; have BW1 := am hb; clear hA hb hgg1)
  | ((with_reducible refine gate_dst (N := 3) rfl ?_); refine box_event ?hg (N := 3) ?hd (cs := #[.slice B0 m.types.length d0, .slice B1 m.imports.length d1, .slice B2 m.funcs.length d2, .slice B3 m.tables.length d3, .slice B4 m.mems.length d4, .slice B5 m.globals.length d5, .slice B6 m.exports.length d6, .int .i64 m.start, .slice B8 m.elems.length d8, .slice B9 m.codes.length d9, .slice B10 m.datas.length d10]) (t := 33) ?hr ?_; (case hd => rfl); (case hg => rfl); (case hr => first | (go_simp; done) | (go_simp; rfl)); intro g2 hgg2 w2 hA hb; have K1b := am (blk_below K1.out hb); clear K1; have K1 := K1b; clear K1b; have BW2 := am (below_step BW1.out hb); clear BW1; have K2 := am hA; have y0 : w2.cell? ⟨g1, 0, none⟩ = some (.slice A0 m.types.length c0) := blk_cell K1.out 0; have y1 : w2.cell? ⟨g1, 1, none⟩ = some (.slice A1 m.imports.length c1) := blk_cell K1.out 1; have y2 : w2.cell? ⟨g1, 2, none⟩ = some (.slice A2 m.funcs.length c2) := blk_cell K1.out 2; have y3 : w2.cell? ⟨g1, 3, none⟩ = some (.slice A3 m.tables.length c3) := blk_cell K1.out 3; have y4 : w2.cell? ⟨g1, 4, none⟩ = some (.slice A4 m.mems.length c4) := blk_cell K1.out 4; have y5 : w2.cell? ⟨g1, 5, none⟩ = some (.slice A5 m.globals.length c5) := blk_cell K1.out 5; have y6 : w2.cell? ⟨g1, 6, none⟩ = some (.slice A6 m.exports.length c6) := blk_cell K1.out 6; have y7 : w2.cell? ⟨g1, 7, none⟩ = some (.int .i64 m.start) := blk_cell K1.out 7; have y8 : w2.cell? ⟨g1, 8, none⟩ = some (.slice A8 m.elems.length c8) := blk_cell K1.out 8; have y9 : w2.cell? ⟨g1, 9, none⟩ = some (.slice A9 m.codes.length c9) := blk_cell K1.out 9; have y10 : w2.cell? ⟨g1, 10, none⟩ = some (.slice A10 m.datas.length c10) := blk_cell K1.out 10; have x0 : w2.cell? ⟨g2, 0, none⟩ = some (.slice B0 m.types.length d0) := blk_cell K2.out 0; have x1 : w2.cell? ⟨g2, 1, none⟩ = some (.slice B1 m.imports.length d1) := blk_cell K2.out 1; have x2 : w2.cell? ⟨g2, 2, none⟩ = some (.slice B2 m.funcs.length d2) := blk_cell K2.out 2; have x3 : w2.cell? ⟨g2, 3, none⟩ = some (.slice B3 m.tables.length d3) := blk_cell K2.out 3; have x4 : w2.cell? ⟨g2, 4, none⟩ = some (.slice B4 m.mems.length d4) := blk_cell K2.out 4; have x5 : w2.cell? ⟨g2, 5, none⟩ = some (.slice B5 m.globals.length d5) := blk_cell K2.out 5; have x6 : w2.cell? ⟨g2, 6, none⟩ = some (.slice B6 m.exports.length d6) := blk_cell K2.out 6; have x7 : w2.cell? ⟨g2, 7, none⟩ = some (.int .i64 m.start) := blk_cell K2.out 7; have x8 : w2.cell? ⟨g2, 8, none⟩ = some (.slice B8 m.elems.length d8) := blk_cell K2.out 8; have x9 : w2.cell? ⟨g2, 9, none⟩ = some (.slice B9 m.codes.length d9) := blk_cell K2.out 9; have x10 : w2.cell? ⟨g2, 10, none⟩ = some (.slice B10 m.datas.length d10) := blk_cell K2.out 10; clear hA hb hgg2)
  | (go_at_call 28; (with_reducible refine (same1_c (Kd.C_below HC0.out BW2.out) HL0.out (Kd.C_below HD0.out BW2.out) HM0.out (Kd.C_below HC1.out BW2.out) HL1.out (Kd.C_below HD1.out BW2.out) HM1.out (Kd.C_below HC2.out BW2.out) HL2.out (Kd.C_below HD2.out BW2.out) HM2.out (Kd.C_below HC3.out BW2.out) HL3.out (Kd.C_below HD3.out BW2.out) HM3.out (Kd.C_below HC4.out BW2.out) HL4.out (Kd.C_below HD4.out BW2.out) HM4.out (Kd.C_below HC5.out BW2.out) HL5.out (Kd.C_below HD5.out BW2.out) HM5.out (Kd.C_below HC6.out BW2.out) HL6.out (Kd.C_below HD6.out BW2.out) HM6.out (Kd.C_below HC8.out BW2.out) HL8.out (Kd.C_below HD8.out BW2.out) HM8.out (Kd.C_below HC9.out BW2.out) HL9.out (Kd.C_below HD9.out BW2.out) HM9.out (Kd.C_below HC10.out BW2.out) HL10.out (Kd.C_below HD10.out BW2.out) HM10.out).mono ?_); rintro e w3 ⟨rfl, hb⟩; have BW := am (BW2.out.trans (hb.mono BW2.out.size)); have K1b := am (blk_below' K1.out hb); have K2b := am (blk_below' K2.out hb); clear K1 K2 BW2; have K1 := K1b; have K2 := K2b; clear K1b K2b; clear y0 x0 y1 x1 y2 x2 y3 x3 y4 x4 y5 x5 y6 x6 y7 x7 y8 x8 y9 x9 y10 x10; have y0 : w3.cell? ⟨g1, 0, none⟩ = some (.slice A0 m.types.length c0) := blk_cell K1.out 0; have y1 : w3.cell? ⟨g1, 1, none⟩ = some (.slice A1 m.imports.length c1) := blk_cell K1.out 1; have y2 : w3.cell? ⟨g1, 2, none⟩ = some (.slice A2 m.funcs.length c2) := blk_cell K1.out 2; have y3 : w3.cell? ⟨g1, 3, none⟩ = some (.slice A3 m.tables.length c3) := blk_cell K1.out 3; have y4 : w3.cell? ⟨g1, 4, none⟩ = some (.slice A4 m.mems.length c4) := blk_cell K1.out 4; have y5 : w3.cell? ⟨g1, 5, none⟩ = some (.slice A5 m.globals.length c5) := blk_cell K1.out 5; have y6 : w3.cell? ⟨g1, 6, none⟩ = some (.slice A6 m.exports.length c6) := blk_cell K1.out 6; have y7 : w3.cell? ⟨g1, 7, none⟩ = some (.int .i64 m.start) := blk_cell K1.out 7; have y8 : w3.cell? ⟨g1, 8, none⟩ = some (.slice A8 m.elems.length c8) := blk_cell K1.out 8; have y9 : w3.cell? ⟨g1, 9, none⟩ = some (.slice A9 m.codes.length c9) := blk_cell K1.out 9; have y10 : w3.cell? ⟨g1, 10, none⟩ = some (.slice A10 m.datas.length c10) := blk_cell K1.out 10; have x0 : w3.cell? ⟨g2, 0, none⟩ = some (.slice B0 m.types.length d0) := blk_cell K2.out 0; have x1 : w3.cell? ⟨g2, 1, none⟩ = some (.slice B1 m.imports.length d1) := blk_cell K2.out 1; have x2 : w3.cell? ⟨g2, 2, none⟩ = some (.slice B2 m.funcs.length d2) := blk_cell K2.out 2; have x3 : w3.cell? ⟨g2, 3, none⟩ = some (.slice B3 m.tables.length d3) := blk_cell K2.out 3; have x4 : w3.cell? ⟨g2, 4, none⟩ = some (.slice B4 m.mems.length d4) := blk_cell K2.out 4; have x5 : w3.cell? ⟨g2, 5, none⟩ = some (.slice B5 m.globals.length d5) := blk_cell K2.out 5; have x6 : w3.cell? ⟨g2, 6, none⟩ = some (.slice B6 m.exports.length d6) := blk_cell K2.out 6; have x7 : w3.cell? ⟨g2, 7, none⟩ = some (.int .i64 m.start) := blk_cell K2.out 7; have x8 : w3.cell? ⟨g2, 8, none⟩ = some (.slice B8 m.elems.length d8) := blk_cell K2.out 8; have x9 : w3.cell? ⟨g2, 9, none⟩ = some (.slice B9 m.codes.length d9) := blk_cell K2.out 9; have x10 : w3.cell? ⟨g2, 10, none⟩ = some (.slice B10 m.datas.length d10) := blk_cell K2.out 10; clear hb))
 go_loopg [5] m.globals.length (fun n v5 wr => ∃ i : Nat, i + n = m.globals.length ∧ v5 = .int .i64 i ∧ wr.heap[g1]? = some (.cells #[.slice A0 m.types.length c0, .slice A1 m.imports.length c1, .slice A2 m.funcs.length c2, .slice A3 m.tables.length c3, .slice A4 m.mems.length c4, .slice A5 m.globals.length c5, .slice A6 m.exports.length c6, .int .i64 m.start, .slice A8 m.elems.length c8, .slice A9 m.codes.length c9, .slice A10 m.datas.length c10] 33 (0, 0)) ∧ wr.heap[g2]? = some (.cells #[.slice B0 m.types.length d0, .slice B1 m.imports.length d1, .slice B2 m.funcs.length d2, .slice B3 m.tables.length d3, .slice B4 m.mems.length d4, .slice B5 m.globals.length d5, .slice B6 m.exports.length d6, .int .i64 m.start, .slice B8 m.elems.length d8, .slice B9 m.codes.length d9, .slice B10 m.datas.length d10] 33 (0, 0)) ∧ Below W.heap.size W wr)
 case atStart => exact ⟨0, by omega, rfl, K1.out, K2.out, BW.out⟩
 case round =>
  obtain ⟨i, hi, rfl, h1, h2, h3⟩ := hrel
  clear K1 K2 BW
  have I0 := am hi
  have K1 := am h1
  have K2 := am h2
  have BW := am h3
  clear hi h1 h2 h3
  by_cases hlt : i < m.globals.length
  ·have dl : decide (i < m.globals.length) = true := decide_eq_true hlt
   have dl2 : decide ((i : Int) < (m.globals.length : Int)) = true := decide_eq_true (by omega)
   have hi0 : (0 : Int) ≤ (i : Int) := by omega
   have HLT := am hlt
   have y : wr.cell? ⟨g1, 5, none⟩ = some (.slice A5 m.globals.length c5) := blk_cell K1.out 5
   have z : wr.cell? ⟨g2, 5, none⟩ = some (.slice B5 m.globals.length d5) := blk_cell K2.out 5
   obtain ⟨ad, P2, p2c, eA, a0, a1, a2, u2, U2⟩ := at_T72 (Kd.C_below HC5.out BW.out) (i : Int) (by omega) (by omega)
   obtain ⟨bd, Q2, q2c, eB, b0, b1, b2, v2, V2⟩ := at_T72 (Kd.C_below HD5.out BW.out) (i : Int) (by omega) (by omega)
   subst eA eB
   have ML : (m.globals.length : Int) ≤ 9223372036854775807 := MX5.out
   have w1 : wrap64 ((i : Int) + 1) = (i : Int) + 1 := by unfold wrap64; omega
   generalize rd_T72 m.globals (i : Int) = x at *
   simp only [Int.toNat_natCast] at a0 a1 a2 b0 b1 b2
   have U2' := am U2; have V2' := am V2; clear U2 V2; have U2 := U2'; have V2 := V2'; clear U2' V2'
   have BX0 : Aside0 (Below wr.heap.size wr wr.drew) := ⟨below_drew (Below.refl _ _)⟩
   go_wp2
   refine start_ (n := 44) (S := fun w' => w'.cell? ⟨g1, 5, none⟩ = some (.slice (some ad) m.globals.length c5) ∧ w'.cell? ⟨g2, 5, none⟩ = some (.slice (some bd) m.globals.length d5) ∧ w'.cell? (ad.add (i * 3)) = some (.int .i64 x.f0) ∧ w'.cell? ⟨(ad.add (i * 3)).block, (ad.add (i * 3)).off + 1, none⟩ = some (.bool x.f1) ∧ w'.cell? ⟨(ad.add (i * 3)).block, (ad.add (i * 3)).off + 2, none⟩ = some (.slice P2 x.f2.length p2c) ∧ w'.cell? (bd.add (i * 3)) = some (.int .i64 x.f0) ∧ w'.cell? ⟨(bd.add (i * 3)).block, (bd.add (i * 3)).off + 1, none⟩ = some (.bool x.f1) ∧ w'.cell? ⟨(bd.add (i * 3)).block, (bd.add (i * 3)).off + 2, none⟩ = some (.slice Q2 x.f2.length q2c)) (ds := []) #[false, false, false, false, false, false, false, false, false, false, false, false, false, false, false, false, false, false, false, false, false, false, false, false, false, false, false, false, false, false, false, false, false, false, false, false, false, false, false, false, false, false, false, false] (by kernel_rfl) rfl rfl ⟨y, z, a0, a1, a2, b0, b1, b2⟩ (fun hHeld => ?_)
   refine pu (i := 0) (N := some 73) (v := ?_) (a' := ?_) rfl rfl (by kernel_rfl) (fun _ _ _ h => h) (.inl ⟨by rfl, ?_⟩) ?_ ?_; rotate_left
   ·intro w'; go_simp; with_reducible rfl
   rotate_left; · simp only [Act.put, List.setIfInBounds_toArray, List.set_cons_zero, List.set_cons_succ, i64_w, i32_w]; rfl
   refine pu (i := 2) (N := some 75) (v := ?_) (a' := ?_) rfl rfl (by kernel_rfl) (fun _ _ _ h => h) (.inl ⟨by rfl, ?_⟩) ?_ ?_; rotate_left
   ·intro w'; go_simp; with_reducible rfl
   rotate_left; · simp only [Act.put, List.setIfInBounds_toArray, List.set_cons_zero, List.set_cons_succ, i64_w, i32_w]; rfl
   refine pu (i := 6) (N := some 79) (v := ?_) (a' := ?_) rfl rfl (by kernel_rfl) (fun _ _ _ h => h) (.inl ⟨by rfl, ?_⟩) ?_ ?_; rotate_left
   ·intro w'; go_simp; with_reducible rfl
   rotate_left; · simp only [Act.put, List.setIfInBounds_toArray, List.set_cons_zero, List.set_cons_succ, i64_w, i32_w]; rfl
   refine pu (i := 8) (N := some 81) (v := ?_) (a' := ?_) rfl rfl (by kernel_rfl) (fun _ _ _ h => h) (.inl ⟨by rfl, ?_⟩) ?_ ?_; rotate_left
   ·intro w'; go_simp; with_reducible rfl
   rotate_left; · simp only [Act.put, List.setIfInBounds_toArray, List.set_cons_zero, List.set_cons_succ, i64_w, i32_w]; rfl
   refine tu (i := 1) (N := some 74) (v := ?_) (a' := ?_) rfl rfl (by kernel_rfl) (fun _ _ _ h => h) (.inl ⟨by rfl, ?_⟩) hHeld ?_ ?_; rotate_left
   ·rintro w' ⟨s0, s1, s2, s3, s4, s5, s6, s7⟩; go_simp; with_reducible rfl
   rotate_left; · simp only [Act.put, List.setIfInBounds_toArray, List.set_cons_zero, List.set_cons_succ, i64_w, i32_w]; rfl
   refine pu (i := 3) (N := some 76) (v := ?_) (a' := ?_) rfl rfl (by kernel_rfl) (fun _ _ _ h => h) (.inl ⟨by rfl, ?_⟩) ?_ ?_; rotate_left
   ·intro w'; go_simp; with_reducible rfl
   rotate_left; · simp only [Act.put, List.setIfInBounds_toArray, List.set_cons_zero, List.set_cons_succ, i64_w, i32_w]; rfl
   refine pu (i := 4) (N := some 77) (v := ?_) (a' := ?_) rfl rfl (by kernel_rfl) (fun _ _ _ h => h) (.inl ⟨by rfl, ?_⟩) ?_ ?_; rotate_left
   ·intro w'; go_simp; with_reducible rfl
   rotate_left; · simp only [Act.put, List.setIfInBounds_toArray, List.set_cons_zero, List.set_cons_succ, i64_w, i32_w]; rfl
   refine tu (i := 5) (N := some 78) (v := ?_) (a' := ?_) rfl rfl (by kernel_rfl) (fun _ _ _ h => h) (.inl ⟨by rfl, ?_⟩) hHeld ?_ ?_; rotate_left
   ·rintro w' ⟨s0, s1, s2, s3, s4, s5, s6, s7⟩; go_simp; with_reducible rfl
   rotate_left; · simp only [Act.put, List.setIfInBounds_toArray, List.set_cons_zero, List.set_cons_succ, i64_w, i32_w]; rfl
   refine tu (i := 7) (N := some 80) (v := ?_) (a' := ?_) rfl rfl (by kernel_rfl) (fun _ _ _ h => h) (.inl ⟨by rfl, ?_⟩) hHeld ?_ ?_; rotate_left
   ·rintro w' ⟨s0, s1, s2, s3, s4, s5, s6, s7⟩; go_simp; with_reducible rfl
   rotate_left; · simp only [Act.put, List.setIfInBounds_toArray, List.set_cons_zero, List.set_cons_succ, i64_w, i32_w]; rfl
   refine pu (i := 9) (N := some 82) (v := ?_) (a' := ?_) rfl rfl (by kernel_rfl) (fun _ _ _ h => h) (.inl ⟨by rfl, ?_⟩) ?_ ?_; rotate_left
   ·intro w'; go_simp; with_reducible rfl
   rotate_left; · simp only [Act.put, List.setIfInBounds_toArray, List.set_cons_zero, List.set_cons_succ, i64_w, i32_w]; rfl
   refine pu (i := 10) (N := some 83) (v := ?_) (a' := ?_) rfl rfl (by kernel_rfl) (fun _ _ _ h => h) (.inl ⟨by rfl, ?_⟩) ?_ ?_; rotate_left
   ·intro w'; go_simp; with_reducible rfl
   rotate_left; · simp only [Act.put, List.setIfInBounds_toArray, List.set_cons_zero, List.set_cons_succ, i64_w, i32_w]; rfl
   refine tu (i := 11) (N := some 84) (v := ?_) (a' := ?_) rfl rfl (by kernel_rfl) (fun _ _ _ h => h) (.inl ⟨by rfl, ?_⟩) hHeld ?_ ?_; rotate_left
   ·rintro w' ⟨s0, s1, s2, s3, s4, s5, s6, s7⟩; go_simp; with_reducible rfl
   rotate_left; · simp only [Act.put, List.setIfInBounds_toArray, List.set_cons_zero, List.set_cons_succ, i64_w, i32_w]; rfl
   refine pu (i := 12) (N := some 85) (v := ?_) (a' := ?_) rfl rfl (by kernel_rfl) (fun _ _ _ h => h) (.inl ⟨by rfl, ?_⟩) ?_ ?_; rotate_left
   ·intro w'; go_simp; with_reducible rfl
   rotate_left; · simp only [Act.put, List.setIfInBounds_toArray, List.set_cons_zero, List.set_cons_succ, i64_w, i32_w]; rfl
   refine pu (i := 13) (N := some 86) (v := ?_) (a' := ?_) rfl rfl (by kernel_rfl) (fun _ _ _ h => h) (.inl ⟨by rfl, ?_⟩) ?_ ?_; rotate_left
   ·intro w'; go_simp; with_reducible rfl
   rotate_left; · simp only [Act.put, List.setIfInBounds_toArray, List.set_cons_zero, List.set_cons_succ, i64_w, i32_w]; rfl
   refine pu (i := 14) (N := some 87) (v := ?_) (a' := ?_) rfl rfl (by kernel_rfl) (fun _ _ _ h => h) (.inl ⟨by rfl, ?_⟩) ?_ ?_; rotate_left
   ·intro w'; go_simp; with_reducible rfl
   rotate_left; · simp only [Act.put, List.setIfInBounds_toArray, List.set_cons_zero, List.set_cons_succ, i64_w, i32_w]; rfl
   refine pu (i := 16) (N := some 89) (v := ?_) (a' := ?_) rfl rfl (by kernel_rfl) (fun _ _ _ h => h) (.inl ⟨by rfl, ?_⟩) ?_ ?_; rotate_left
   ·intro w'; go_simp; with_reducible rfl
   rotate_left; · simp only [Act.put, List.setIfInBounds_toArray, List.set_cons_zero, List.set_cons_succ, i64_w, i32_w]; rfl
   refine pu (i := 20) (N := some 93) (v := ?_) (a' := ?_) rfl rfl (by kernel_rfl) (fun _ _ _ h => h) (.inl ⟨by rfl, ?_⟩) ?_ ?_; rotate_left
   ·intro w'; go_simp; with_reducible rfl
   rotate_left; · simp only [Act.put, List.setIfInBounds_toArray, List.set_cons_zero, List.set_cons_succ, i64_w, i32_w]; rfl
   refine pu (i := 22) (N := some 95) (v := ?_) (a' := ?_) rfl rfl (by kernel_rfl) (fun _ _ _ h => h) (.inl ⟨by rfl, ?_⟩) ?_ ?_; rotate_left
   ·intro w'; go_simp; with_reducible rfl
   rotate_left; · simp only [Act.put, List.setIfInBounds_toArray, List.set_cons_zero, List.set_cons_succ, i64_w, i32_w]; rfl
   refine tu (i := 15) (N := some 88) (v := ?_) (a' := ?_) rfl rfl (by kernel_rfl) (fun _ _ _ h => h) (.inl ⟨by rfl, ?_⟩) hHeld ?_ ?_; rotate_left
   ·rintro w' ⟨s0, s1, s2, s3, s4, s5, s6, s7⟩; go_simp; with_reducible rfl
   rotate_left; · simp only [Act.put, List.setIfInBounds_toArray, List.set_cons_zero, List.set_cons_succ, i64_w, i32_w]; rfl
   refine pu (i := 17) (N := some 90) (v := ?_) (a' := ?_) rfl rfl (by kernel_rfl) (fun _ _ _ h => h) (.inl ⟨by rfl, ?_⟩) ?_ ?_; rotate_left
   ·intro w'; go_simp; with_reducible rfl
   rotate_left; · simp only [Act.put, List.setIfInBounds_toArray, List.set_cons_zero, List.set_cons_succ, i64_w, i32_w]; rfl
   refine pu (i := 18) (N := some 91) (v := ?_) (a' := ?_) rfl rfl (by kernel_rfl) (fun _ _ _ h => h) (.inl ⟨by rfl, ?_⟩) ?_ ?_; rotate_left
   ·intro w'; go_simp; with_reducible rfl
   rotate_left; · simp only [Act.put, List.setIfInBounds_toArray, List.set_cons_zero, List.set_cons_succ, i64_w, i32_w]; rfl
   refine tu (i := 19) (N := some 92) (v := ?_) (a' := ?_) rfl rfl (by kernel_rfl) (fun _ _ _ h => h) (.inl ⟨by rfl, ?_⟩) hHeld ?_ ?_; rotate_left
   ·rintro w' ⟨s0, s1, s2, s3, s4, s5, s6, s7⟩; go_simp; with_reducible rfl
   rotate_left; · simp only [Act.put, List.setIfInBounds_toArray, List.set_cons_zero, List.set_cons_succ, i64_w, i32_w]; rfl
   refine tu (i := 21) (N := some 94) (v := ?_) (a' := ?_) rfl rfl (by kernel_rfl) (fun _ _ _ h => h) (.inl ⟨by rfl, ?_⟩) hHeld ?_ ?_; rotate_left
   ·rintro w' ⟨s0, s1, s2, s3, s4, s5, s6, s7⟩; go_simp; with_reducible rfl
   rotate_left; · simp only [Act.put, List.setIfInBounds_toArray, List.set_cons_zero, List.set_cons_succ, i64_w, i32_w]; rfl
   refine pu (i := 23) (N := some 96) (v := ?_) (a' := ?_) rfl rfl (by kernel_rfl) (fun _ _ _ h => h) (.inl ⟨by rfl, ?_⟩) ?_ ?_; rotate_left
   ·intro w'; go_simp; with_reducible rfl
   rotate_left; · simp only [Act.put, List.setIfInBounds_toArray, List.set_cons_zero, List.set_cons_succ, i64_w, i32_w]; rfl
   refine pu (i := 24) (N := some 97) (v := ?_) (a' := ?_) rfl rfl (by kernel_rfl) (fun _ _ _ h => h) (.inl ⟨by rfl, ?_⟩) ?_ ?_; rotate_left
   ·intro w'; go_simp; with_reducible rfl
   rotate_left; · simp only [Act.put, List.setIfInBounds_toArray, List.set_cons_zero, List.set_cons_succ, i64_w, i32_w]; rfl
   refine tu (i := 25) (N := some 98) (v := ?_) (a' := ?_) rfl rfl (by kernel_rfl) (fun _ _ _ h => h) (.inl ⟨by rfl, ?_⟩) hHeld ?_ ?_; rotate_left
   ·rintro w' ⟨s0, s1, s2, s3, s4, s5, s6, s7⟩; go_simp; with_reducible rfl
   rotate_left; · simp only [Act.put, List.setIfInBounds_toArray, List.set_cons_zero, List.set_cons_succ, i64_w, i32_w]; rfl
   refine pu (i := 26) (N := some 99) (v := ?_) (a' := ?_) rfl rfl (by kernel_rfl) (fun _ _ _ h => h) (.inl ⟨by rfl, ?_⟩) ?_ ?_; rotate_left
   ·intro w'; go_simp; with_reducible rfl
   rotate_left; · simp only [Act.put, List.setIfInBounds_toArray, List.set_cons_zero, List.set_cons_succ, i64_w, i32_w]; rfl
   refine pu (i := 27) (N := some 100) (v := ?_) (a' := ?_) rfl rfl (by kernel_rfl) (fun _ _ _ h => h) (.inl ⟨by rfl, ?_⟩) ?_ ?_; rotate_left
   ·intro w'; go_simp; with_reducible rfl
   rotate_left; · simp only [Act.put, List.setIfInBounds_toArray, List.set_cons_zero, List.set_cons_succ, i64_w, i32_w]; rfl
   refine pu (i := 28) (N := some 101) (v := ?_) (a' := ?_) rfl rfl (by kernel_rfl) (fun _ _ _ h => h) (.inl ⟨by rfl, ?_⟩) ?_ ?_; rotate_left
   ·intro w'; go_simp; with_reducible rfl
   rotate_left; · simp only [Act.put, List.setIfInBounds_toArray, List.set_cons_zero, List.set_cons_succ, i64_w, i32_w]; rfl
   refine pu (i := 29) (N := some 102) (v := ?_) (a' := ?_) rfl rfl (by kernel_rfl) (fun _ _ _ h => h) (.inl ⟨by rfl, ?_⟩) ?_ ?_; rotate_left
   ·intro w'; go_simp; with_reducible rfl
   rotate_left; · simp only [Act.put, List.setIfInBounds_toArray, List.set_cons_zero, List.set_cons_succ, i64_w, i32_w]; rfl
   refine pu (i := 31) (N := some 104) (v := ?_) (a' := ?_) rfl rfl (by kernel_rfl) (fun _ _ _ h => h) (.inl ⟨by rfl, ?_⟩) ?_ ?_; rotate_left
   ·intro w'; go_simp; with_reducible rfl
   rotate_left; · simp only [Act.put, List.setIfInBounds_toArray, List.set_cons_zero, List.set_cons_succ, i64_w, i32_w]; rfl
   refine pu (i := 35) (N := some 108) (v := ?_) (a' := ?_) rfl rfl (by kernel_rfl) (fun _ _ _ h => h) (.inl ⟨by rfl, ?_⟩) ?_ ?_; rotate_left
   ·intro w'; go_simp; with_reducible rfl
   rotate_left; · simp only [Act.put, List.setIfInBounds_toArray, List.set_cons_zero, List.set_cons_succ, i64_w, i32_w]; rfl
   refine pu (i := 37) (N := some 110) (v := ?_) (a' := ?_) rfl rfl (by kernel_rfl) (fun _ _ _ h => h) (.inl ⟨by rfl, ?_⟩) ?_ ?_; rotate_left
   ·intro w'; go_simp; with_reducible rfl
   rotate_left; · simp only [Act.put, List.setIfInBounds_toArray, List.set_cons_zero, List.set_cons_succ, i64_w, i32_w]; rfl
   refine tu (i := 30) (N := some 103) (v := ?_) (a' := ?_) rfl rfl (by kernel_rfl) (fun _ _ _ h => h) (.inl ⟨by rfl, ?_⟩) hHeld ?_ ?_; rotate_left
   ·rintro w' ⟨s0, s1, s2, s3, s4, s5, s6, s7⟩; go_simp; with_reducible rfl
   rotate_left; · simp only [Act.put, List.setIfInBounds_toArray, List.set_cons_zero, List.set_cons_succ, i64_w, i32_w]; rfl
   refine pu (i := 32) (N := some 105) (v := ?_) (a' := ?_) rfl rfl (by kernel_rfl) (fun _ _ _ h => h) (.inl ⟨by rfl, ?_⟩) ?_ ?_; rotate_left
   ·intro w'; go_simp; with_reducible rfl
   rotate_left; · simp only [Act.put, List.setIfInBounds_toArray, List.set_cons_zero, List.set_cons_succ, i64_w, i32_w]; rfl
   refine pu (i := 33) (N := some 106) (v := ?_) (a' := ?_) rfl rfl (by kernel_rfl) (fun _ _ _ h => h) (.inl ⟨by rfl, ?_⟩) ?_ ?_; rotate_left
   ·intro w'; go_simp; with_reducible rfl
   rotate_left; · simp only [Act.put, List.setIfInBounds_toArray, List.set_cons_zero, List.set_cons_succ, i64_w, i32_w]; rfl
   refine tu (i := 34) (N := some 107) (v := ?_) (a' := ?_) rfl rfl (by kernel_rfl) (fun _ _ _ h => h) (.inl ⟨by rfl, ?_⟩) hHeld ?_ ?_; rotate_left
   ·rintro w' ⟨s0, s1, s2, s3, s4, s5, s6, s7⟩; go_simp; with_reducible rfl
   rotate_left; · simp only [Act.put, List.setIfInBounds_toArray, List.set_cons_zero, List.set_cons_succ, i64_w, i32_w]; rfl
   refine tu (i := 36) (N := some 109) (v := ?_) (a' := ?_) rfl rfl (by kernel_rfl) (fun _ _ _ h => h) (.inl ⟨by rfl, ?_⟩) hHeld ?_ ?_; rotate_left
   ·rintro w' ⟨s0, s1, s2, s3, s4, s5, s6, s7⟩; go_simp; with_reducible rfl
   rotate_left; · simp only [Act.put, List.setIfInBounds_toArray, List.set_cons_zero, List.set_cons_succ, i64_w, i32_w]; rfl
   refine pu (i := 38) (N := some 111) (v := ?_) (a' := ?_) rfl rfl (by kernel_rfl) (fun _ _ _ h => h) (.inl ⟨by rfl, ?_⟩) ?_ ?_; rotate_left
   ·intro w'; go_simp; with_reducible rfl
   rotate_left; · simp only [Act.put, List.setIfInBounds_toArray, List.set_cons_zero, List.set_cons_succ, i64_w, i32_w]; rfl
   refine pu (i := 39) (N := some 112) (v := ?_) (a' := ?_) rfl rfl (by kernel_rfl) (fun _ _ _ h => h) (.inl ⟨by rfl, ?_⟩) ?_ ?_; rotate_left
   ·intro w'; go_simp; with_reducible rfl
   rotate_left; · simp only [Act.put, List.setIfInBounds_toArray, List.set_cons_zero, List.set_cons_succ, i64_w, i32_w]; rfl
   refine tu (i := 40) (N := some 113) (v := ?_) (a' := ?_) rfl rfl (by kernel_rfl) (fun _ _ _ h => h) (.inl ⟨by rfl, ?_⟩) hHeld ?_ ?_; rotate_left
   ·rintro w' ⟨s0, s1, s2, s3, s4, s5, s6, s7⟩; go_simp; with_reducible rfl
   rotate_left; · simp only [Act.put, List.setIfInBounds_toArray, List.set_cons_zero, List.set_cons_succ, i64_w, i32_w]; rfl
   refine one_ (i := 41) (N := some 114) #[true, true, true, true, true, true, true, true, true, true, true, true, true, true, true, true, true, true, true, true, true, true, true, true, true, true, true, true, true, true, true, true, true, true, true, true, true, true, true, true, true, true, false, false] rfl rfl (by kernel_rfl) (by decide) (fun K hK => ?_)
   refine goes_ Tryd.func29 (by kernel_rfl) rfl #[.slice P2 x.f2.length p2c, .slice Q2 x.f2.length q2c] (by rfl) rfl rfl (by simp only [List.map_toArray, List.map_cons, List.map_nil]; rfl) ?_
   with_reducible refine (ESame.same_size _ x.f2 (Nat.le_refl _) _ (Kd.C_below U2.out BX0.out) u2 (Kd.C_below V2.out BX0.out) v2).mono ?_
   rintro e u0w ⟨rfl, hb⟩
   refine ⟨_, rfl, ?_⟩
   have BX1 := am (BX0.out.trans (hb.mono BX0.out.size))
   clear hb BX0
   refine hK.out _ _ ⟨pw_cell_below BX1.out y, pw_cell_below BX1.out z, pw_cell_below BX1.out a0, pw_cell_below BX1.out a1, pw_cell_below BX1.out a2, pw_cell_below BX1.out b0, pw_cell_below BX1.out b1, pw_cell_below BX1.out b2⟩ (fun hHeld => ?_)
   clear hK K
   refine norm_ (a' := ?_) ?_ ?_
   rotate_left
   ·show Act.put _ (some 114) _ = _
    simp only [Act.put, List.setIfInBounds_toArray, List.set_cons_zero, List.set_cons_succ, i64_w, i32_w]
    rfl
   refine pu (i := 42) (N := some 115) (v := ?_) (a' := ?_) rfl rfl (by kernel_rfl) (fun _ _ _ h => h) (.inl ⟨by rfl, ?_⟩) ?_ ?_; rotate_left
   ·intro w'; go_simp; with_reducible rfl
   rotate_left; · simp only [Act.put, List.setIfInBounds_toArray, List.set_cons_zero, List.set_cons_succ, i64_w, i32_w]; rfl
   refine pu (i := 43) (N := some 116) (v := ?_) (a' := ?_) rfl rfl (by kernel_rfl) (fun _ _ _ h => h) (.inl ⟨by rfl, ?_⟩) ?_ ?_; rotate_left
   ·intro w'; go_simp; with_reducible rfl
   rotate_left; · simp only [Act.put, List.setIfInBounds_toArray, List.set_cons_zero, List.set_cons_succ, i64_w, i32_w]; rfl
   refine done_ (by kernel_rfl) ?_
   
   go_wp2
   go_roundg (m.globals.length - (i + 1))
   case measure => have := I0.out; have := HLT.out; omega
   case rel => exact ⟨i + 1, by have := HLT.out; omega, by go_num, blk_below' K1.out BX1.out, blk_below' K2.out BX1.out, BW.out.trans (BX1.out.mono BW.out.size)⟩
  ·have dl : decide (i < m.globals.length) = false := decide_eq_false hlt
   have dl2 : decide ((i : Int) < (m.globals.length : Int)) = false := decide_eq_false (by omega)
   have y : wr.cell? ⟨g1, 5, none⟩ = some (.slice A5 m.globals.length c5) := blk_cell K1.out 5
   clear hlt I0
   go_wp2
   go_loopg [6] m.exports.length (fun n v6 wr => ∃ i : Nat, i + n = m.exports.length ∧ v6 = .int .i64 i ∧ wr.heap[g1]? = some (.cells #[.slice A0 m.types.length c0, .slice A1 m.imports.length c1, .slice A2 m.funcs.length c2, .slice A3 m.tables.length c3, .slice A4 m.mems.length c4, .slice A5 m.globals.length c5, .slice A6 m.exports.length c6, .int .i64 m.start, .slice A8 m.elems.length c8, .slice A9 m.codes.length c9, .slice A10 m.datas.length c10] 33 (0, 0)) ∧ wr.heap[g2]? = some (.cells #[.slice B0 m.types.length d0, .slice B1 m.imports.length d1, .slice B2 m.funcs.length d2, .slice B3 m.tables.length d3, .slice B4 m.mems.length d4, .slice B5 m.globals.length d5, .slice B6 m.exports.length d6, .int .i64 m.start, .slice B8 m.elems.length d8, .slice B9 m.codes.length d9, .slice B10 m.datas.length d10] 33 (0, 0)) ∧ Below W.heap.size W wr)
   case atStart => exact ⟨0, by omega, rfl, K1.out, K2.out, BW.out⟩
   case round =>
    obtain ⟨i, hi, rfl, h1, h2, h3⟩ := hrel
    clear K1 K2 BW
    have I0 := am hi
    have K1 := am h1
    have K2 := am h2
    have BW := am h3
    clear hi h1 h2 h3
    by_cases hlt : i < m.exports.length
    ·have dl : decide (i < m.exports.length) = true := decide_eq_true hlt
     have dl2 : decide ((i : Int) < (m.exports.length : Int)) = true := decide_eq_true (by omega)
     have hi0 : (0 : Int) ≤ (i : Int) := by omega
     have HLT := am hlt
     have y : wr.cell? ⟨g1, 6, none⟩ = some (.slice A6 m.exports.length c6) := blk_cell K1.out 6
     have z : wr.cell? ⟨g2, 6, none⟩ = some (.slice B6 m.exports.length d6) := blk_cell K2.out 6
     obtain ⟨ad, eA, a0, a1, a2⟩ := at_T75 (Kd.C_below HC6.out BW.out) (i : Int) (by omega) (by omega)
     obtain ⟨bd, eB, b0, b1, b2⟩ := at_T75 (Kd.C_below HD6.out BW.out) (i : Int) (by omega) (by omega)
     subst eA eB
     have ML : (m.exports.length : Int) ≤ 9223372036854775807 := MX6.out
     have w1 : wrap64 ((i : Int) + 1) = (i : Int) + 1 := by unfold wrap64; omega
     generalize rd_T75 m.exports (i : Int) = x at *
     simp only [Int.toNat_natCast] at a0 a1 a2 b0 b1 b2
     have BX0 : Aside0 (Below wr.heap.size wr wr.drew) := ⟨below_drew (Below.refl _ _)⟩
     go_wp2
     refine start_ (n := 11) (S := fun w' => w'.cell? ⟨g1, 6, none⟩ = some (.slice (some ad) m.exports.length c6) ∧ w'.cell? ⟨g2, 6, none⟩ = some (.slice (some bd) m.exports.length d6) ∧ w'.cell? (ad.add (i * 3)) = some (.string x.f0) ∧ w'.cell? ⟨(ad.add (i * 3)).block, (ad.add (i * 3)).off + 1, none⟩ = some (.int .i64 x.f1) ∧ w'.cell? ⟨(ad.add (i * 3)).block, (ad.add (i * 3)).off + 2, none⟩ = some (.int .i64 x.f2) ∧ w'.cell? (bd.add (i * 3)) = some (.string x.f0) ∧ w'.cell? ⟨(bd.add (i * 3)).block, (bd.add (i * 3)).off + 1, none⟩ = some (.int .i64 x.f1) ∧ w'.cell? ⟨(bd.add (i * 3)).block, (bd.add (i * 3)).off + 2, none⟩ = some (.int .i64 x.f2)) (ds := []) #[false, false, false, false, false, false, false, false, false, false, false] (by kernel_rfl) rfl rfl ⟨y, z, a0, a1, a2, b0, b1, b2⟩ (fun hHeld => ?_)
     refine pu (i := 0) (N := some 124) (v := ?_) (a' := ?_) rfl rfl (by kernel_rfl) (fun _ _ _ h => h) (.inl ⟨by rfl, ?_⟩) ?_ ?_; rotate_left
     ·intro w'; go_simp; with_reducible rfl
     rotate_left; · simp only [Act.put, List.setIfInBounds_toArray, List.set_cons_zero, List.set_cons_succ, i64_w, i32_w]; rfl
     refine pu (i := 2) (N := some 126) (v := ?_) (a' := ?_) rfl rfl (by kernel_rfl) (fun _ _ _ h => h) (.inl ⟨by rfl, ?_⟩) ?_ ?_; rotate_left
     ·intro w'; go_simp; with_reducible rfl
     rotate_left; · simp only [Act.put, List.setIfInBounds_toArray, List.set_cons_zero, List.set_cons_succ, i64_w, i32_w]; rfl
     refine pu (i := 5) (N := some 129) (v := ?_) (a' := ?_) rfl rfl (by kernel_rfl) (fun _ _ _ h => h) (.inl ⟨by rfl, ?_⟩) ?_ ?_; rotate_left
     ·intro w'; go_simp; with_reducible rfl
     rotate_left; · simp only [Act.put, List.setIfInBounds_toArray, List.set_cons_zero, List.set_cons_succ, i64_w, i32_w]; rfl
     refine pu (i := 7) (N := some 131) (v := ?_) (a' := ?_) rfl rfl (by kernel_rfl) (fun _ _ _ h => h) (.inl ⟨by rfl, ?_⟩) ?_ ?_; rotate_left
     ·intro w'; go_simp; with_reducible rfl
     rotate_left; · simp only [Act.put, List.setIfInBounds_toArray, List.set_cons_zero, List.set_cons_succ, i64_w, i32_w]; rfl
     refine tu (i := 1) (N := some 125) (v := ?_) (a' := ?_) rfl rfl (by kernel_rfl) (fun _ _ _ h => h) (.inl ⟨by rfl, ?_⟩) hHeld ?_ ?_; rotate_left
     ·rintro w' ⟨s0, s1, s2, s3, s4, s5, s6, s7⟩; go_simp; with_reducible rfl
     rotate_left; · simp only [Act.put, List.setIfInBounds_toArray, List.set_cons_zero, List.set_cons_succ, i64_w, i32_w]; rfl
     refine pu (i := 3) (N := some 127) (v := ?_) (a' := ?_) rfl rfl (by kernel_rfl) (fun _ _ _ h => h) (.inl ⟨by rfl, ?_⟩) ?_ ?_; rotate_left
     ·intro w'; go_simp; with_reducible rfl
     rotate_left; · simp only [Act.put, List.setIfInBounds_toArray, List.set_cons_zero, List.set_cons_succ, i64_w, i32_w]; rfl
     refine tu (i := 4) (N := some 128) (v := ?_) (a' := ?_) rfl rfl (by kernel_rfl) (fun _ _ _ h => h) (.inl ⟨by rfl, ?_⟩) hHeld ?_ ?_; rotate_left
     ·rintro w' ⟨s0, s1, s2, s3, s4, s5, s6, s7⟩; go_simp; with_reducible rfl
     rotate_left; · simp only [Act.put, List.setIfInBounds_toArray, List.set_cons_zero, List.set_cons_succ, i64_w, i32_w]; rfl
     refine tu (i := 6) (N := some 130) (v := ?_) (a' := ?_) rfl rfl (by kernel_rfl) (fun _ _ _ h => h) (.inl ⟨by rfl, ?_⟩) hHeld ?_ ?_; rotate_left
     ·rintro w' ⟨s0, s1, s2, s3, s4, s5, s6, s7⟩; go_simp; with_reducible rfl
     rotate_left; · simp only [Act.put, List.setIfInBounds_toArray, List.set_cons_zero, List.set_cons_succ, i64_w, i32_w]; rfl
     refine pu (i := 8) (N := some 132) (v := ?_) (a' := ?_) rfl rfl (by kernel_rfl) (fun _ _ _ h => h) (.inl ⟨by rfl, ?_⟩) ?_ ?_; rotate_left
     ·intro w'; go_simp; with_reducible rfl
     rotate_left; · simp only [Act.put, List.setIfInBounds_toArray, List.set_cons_zero, List.set_cons_succ, i64_w, i32_w]; rfl
     refine tu (i := 9) (N := some 133) (v := ?_) (a' := ?_) rfl rfl (by kernel_rfl) (fun _ _ _ h => h) (.inl ⟨by rfl, ?_⟩) hHeld ?_ ?_; rotate_left
     ·rintro w' ⟨s0, s1, s2, s3, s4, s5, s6, s7⟩; go_simp; with_reducible rfl
     rotate_left; · simp only [Act.put, List.setIfInBounds_toArray, List.set_cons_zero, List.set_cons_succ, i64_w, i32_w]; rfl
     refine pu (i := 10) (N := some 134) (v := ?_) (a' := ?_) rfl rfl (by kernel_rfl) (fun _ _ _ h => h) (.inl ⟨by rfl, ?_⟩) ?_ ?_; rotate_left
     ·intro w'; go_simp; with_reducible rfl
     rotate_left; · simp only [Act.put, List.setIfInBounds_toArray, List.set_cons_zero, List.set_cons_succ, i64_w, i32_w]; rfl
     refine done_ (by kernel_rfl) ?_
     
     go_wp2
     go_roundg (m.exports.length - (i + 1))
     case measure => have := I0.out; have := HLT.out; omega
     case rel => exact ⟨i + 1, by have := HLT.out; omega, by go_num, blk_below' K1.out BX0.out, blk_below' K2.out BX0.out, BW.out.trans (BX0.out.mono BW.out.size)⟩
    ·have dl : decide (i < m.exports.length) = false := decide_eq_false hlt
     have dl2 : decide ((i : Int) < (m.exports.length : Int)) = false := decide_eq_false (by omega)
     have y : wr.cell? ⟨g1, 6, none⟩ = some (.slice A6 m.exports.length c6) := blk_cell K1.out 6
     clear hlt I0
     go_wp2
     go_loopg [7] m.elems.length (fun n v7 wr => ∃ i : Nat, i + n = m.elems.length ∧ v7 = .int .i64 i ∧ wr.heap[g1]? = some (.cells #[.slice A0 m.types.length c0, .slice A1 m.imports.length c1, .slice A2 m.funcs.length c2, .slice A3 m.tables.length c3, .slice A4 m.mems.length c4, .slice A5 m.globals.length c5, .slice A6 m.exports.length c6, .int .i64 m.start, .slice A8 m.elems.length c8, .slice A9 m.codes.length c9, .slice A10 m.datas.length c10] 33 (0, 0)) ∧ wr.heap[g2]? = some (.cells #[.slice B0 m.types.length d0, .slice B1 m.imports.length d1, .slice B2 m.funcs.length d2, .slice B3 m.tables.length d3, .slice B4 m.mems.length d4, .slice B5 m.globals.length d5, .slice B6 m.exports.length d6, .int .i64 m.start, .slice B8 m.elems.length d8, .slice B9 m.codes.length d9, .slice B10 m.datas.length d10] 33 (0, 0)) ∧ Below W.heap.size W wr)
     case atStart => exact ⟨0, by omega, rfl, K1.out, K2.out, BW.out⟩
     case round =>
      obtain ⟨i, hi, rfl, h1, h2, h3⟩ := hrel
      clear K1 K2 BW
      have I0 := am hi
      have K1 := am h1
      have K2 := am h2
      have BW := am h3
      clear hi h1 h2 h3
      by_cases hlt : i < m.elems.length
      ·have dl : decide (i < m.elems.length) = true := decide_eq_true hlt
       have dl2 : decide ((i : Int) < (m.elems.length : Int)) = true := decide_eq_true (by omega)
       have hi0 : (0 : Int) ≤ (i : Int) := by omega
       have HLT := am hlt
       have y : wr.cell? ⟨g1, 8, none⟩ = some (.slice A8 m.elems.length c8) := blk_cell K1.out 8
       have z : wr.cell? ⟨g2, 8, none⟩ = some (.slice B8 m.elems.length d8) := blk_cell K2.out 8
       obtain ⟨ad, P0, p0c, P1, p1c, eA, a0, a1, u0, U0, u1, U1⟩ := at_T77 (Kd.C_below HC8.out BW.out) (i : Int) (by omega) (by omega)
       obtain ⟨bd, Q0, q0c, Q1, q1c, eB, b0, b1, v0, V0, v1, V1⟩ := at_T77 (Kd.C_below HD8.out BW.out) (i : Int) (by omega) (by omega)
       subst eA eB
       have ML : (m.elems.length : Int) ≤ 9223372036854775807 := MX8.out
       have w1 : wrap64 ((i : Int) + 1) = (i : Int) + 1 := by unfold wrap64; omega
       generalize rd_T77 m.elems (i : Int) = x at *
       simp only [Int.toNat_natCast] at a0 a1 b0 b1
       have U0' := am U0; have V0' := am V0; clear U0 V0; have U0 := U0'; have V0 := V0'; clear U0' V0'
       have U1' := am U1; have V1' := am V1; clear U1 V1; have U1 := U1'; have V1 := V1'; clear U1' V1'
       have BX0 : Aside0 (Below wr.heap.size wr wr.drew) := ⟨below_drew (Below.refl _ _)⟩
       go_wp2
       refine start_ (n := 30) (S := fun w' => w'.cell? ⟨g1, 8, none⟩ = some (.slice (some ad) m.elems.length c8) ∧ w'.cell? ⟨g2, 8, none⟩ = some (.slice (some bd) m.elems.length d8) ∧ w'.cell? (ad.add (i * 2)) = some (.slice P0 x.f0.length p0c) ∧ w'.cell? ⟨(ad.add (i * 2)).block, (ad.add (i * 2)).off + 1, none⟩ = some (.slice P1 x.f1.length p1c) ∧ w'.cell? (bd.add (i * 2)) = some (.slice Q0 x.f0.length q0c) ∧ w'.cell? ⟨(bd.add (i * 2)).block, (bd.add (i * 2)).off + 1, none⟩ = some (.slice Q1 x.f1.length q1c)) (ds := []) #[false, false, false, false, false, false, false, false, false, false, false, false, false, false, false, false, false, false, false, false, false, false, false, false, false, false, false, false, false, false] (by kernel_rfl) rfl rfl ⟨y, z, a0, a1, b0, b1⟩ (fun hHeld => ?_)
       refine pu (i := 0) (N := some 142) (v := ?_) (a' := ?_) rfl rfl (by kernel_rfl) (fun _ _ _ h => h) (.inl ⟨by rfl, ?_⟩) ?_ ?_; rotate_left
       ·intro w'; go_simp; with_reducible rfl
       rotate_left; · simp only [Act.put, List.setIfInBounds_toArray, List.set_cons_zero, List.set_cons_succ, i64_w, i32_w]; rfl
       refine pu (i := 2) (N := some 144) (v := ?_) (a' := ?_) rfl rfl (by kernel_rfl) (fun _ _ _ h => h) (.inl ⟨by rfl, ?_⟩) ?_ ?_; rotate_left
       ·intro w'; go_simp; with_reducible rfl
       rotate_left; · simp only [Act.put, List.setIfInBounds_toArray, List.set_cons_zero, List.set_cons_succ, i64_w, i32_w]; rfl
       refine pu (i := 6) (N := some 148) (v := ?_) (a' := ?_) rfl rfl (by kernel_rfl) (fun _ _ _ h => h) (.inl ⟨by rfl, ?_⟩) ?_ ?_; rotate_left
       ·intro w'; go_simp; with_reducible rfl
       rotate_left; · simp only [Act.put, List.setIfInBounds_toArray, List.set_cons_zero, List.set_cons_succ, i64_w, i32_w]; rfl
       refine pu (i := 8) (N := some 150) (v := ?_) (a' := ?_) rfl rfl (by kernel_rfl) (fun _ _ _ h => h) (.inl ⟨by rfl, ?_⟩) ?_ ?_; rotate_left
       ·intro w'; go_simp; with_reducible rfl
       rotate_left; · simp only [Act.put, List.setIfInBounds_toArray, List.set_cons_zero, List.set_cons_succ, i64_w, i32_w]; rfl
       refine tu (i := 1) (N := some 143) (v := ?_) (a' := ?_) rfl rfl (by kernel_rfl) (fun _ _ _ h => h) (.inl ⟨by rfl, ?_⟩) hHeld ?_ ?_; rotate_left
       ·rintro w' ⟨s0, s1, s2, s3, s4, s5⟩; go_simp; with_reducible rfl
       rotate_left; · simp only [Act.put, List.setIfInBounds_toArray, List.set_cons_zero, List.set_cons_succ, i64_w, i32_w]; rfl
       refine pu (i := 3) (N := some 145) (v := ?_) (a' := ?_) rfl rfl (by kernel_rfl) (fun _ _ _ h => h) (.inl ⟨by rfl, ?_⟩) ?_ ?_; rotate_left
       ·intro w'; go_simp; with_reducible rfl
       rotate_left; · simp only [Act.put, List.setIfInBounds_toArray, List.set_cons_zero, List.set_cons_succ, i64_w, i32_w]; rfl
       refine pu (i := 4) (N := some 146) (v := ?_) (a' := ?_) rfl rfl (by kernel_rfl) (fun _ _ _ h => h) (.inl ⟨by rfl, ?_⟩) ?_ ?_; rotate_left
       ·intro w'; go_simp; with_reducible rfl
       rotate_left; · simp only [Act.put, List.setIfInBounds_toArray, List.set_cons_zero, List.set_cons_succ, i64_w, i32_w]; rfl
       refine tu (i := 5) (N := some 147) (v := ?_) (a' := ?_) rfl rfl (by kernel_rfl) (fun _ _ _ h => h) (.inl ⟨by rfl, ?_⟩) hHeld ?_ ?_; rotate_left
       ·rintro w' ⟨s0, s1, s2, s3, s4, s5⟩; go_simp; with_reducible rfl
       rotate_left; · simp only [Act.put, List.setIfInBounds_toArray, List.set_cons_zero, List.set_cons_succ, i64_w, i32_w]; rfl
       refine tu (i := 7) (N := some 149) (v := ?_) (a' := ?_) rfl rfl (by kernel_rfl) (fun _ _ _ h => h) (.inl ⟨by rfl, ?_⟩) hHeld ?_ ?_; rotate_left
       ·rintro w' ⟨s0, s1, s2, s3, s4, s5⟩; go_simp; with_reducible rfl
       rotate_left; · simp only [Act.put, List.setIfInBounds_toArray, List.set_cons_zero, List.set_cons_succ, i64_w, i32_w]; rfl
       refine pu (i := 9) (N := some 151) (v := ?_) (a' := ?_) rfl rfl (by kernel_rfl) (fun _ _ _ h => h) (.inl ⟨by rfl, ?_⟩) ?_ ?_; rotate_left
       ·intro w'; go_simp; with_reducible rfl
       rotate_left; · simp only [Act.put, List.setIfInBounds_toArray, List.set_cons_zero, List.set_cons_succ, i64_w, i32_w]; rfl
       refine pu (i := 10) (N := some 152) (v := ?_) (a' := ?_) rfl rfl (by kernel_rfl) (fun _ _ _ h => h) (.inl ⟨by rfl, ?_⟩) ?_ ?_; rotate_left
       ·intro w'; go_simp; with_reducible rfl
       rotate_left; · simp only [Act.put, List.setIfInBounds_toArray, List.set_cons_zero, List.set_cons_succ, i64_w, i32_w]; rfl
       refine tu (i := 11) (N := some 153) (v := ?_) (a' := ?_) rfl rfl (by kernel_rfl) (fun _ _ _ h => h) (.inl ⟨by rfl, ?_⟩) hHeld ?_ ?_; rotate_left
       ·rintro w' ⟨s0, s1, s2, s3, s4, s5⟩; go_simp; with_reducible rfl
       rotate_left; · simp only [Act.put, List.setIfInBounds_toArray, List.set_cons_zero, List.set_cons_succ, i64_w, i32_w]; rfl
       refine one_ (i := 12) (N := some 154) #[true, true, true, true, true, true, true, true, true, true, true, true, true, false, false, false, false, false, false, false, false, false, false, false, false, false, false, false, false, false] rfl rfl (by kernel_rfl) (by decide) (fun K hK => ?_)
       refine goes_ Tryd.func29 (by kernel_rfl) rfl #[.slice P0 x.f0.length p0c, .slice Q0 x.f0.length q0c] (by rfl) rfl rfl (by simp only [List.map_toArray, List.map_cons, List.map_nil]; rfl) ?_
       with_reducible refine (ESame.same_size _ x.f0 (Nat.le_refl _) _ (Kd.C_below U0.out BX0.out) u0 (Kd.C_below V0.out BX0.out) v0).mono ?_
       rintro e u0w ⟨rfl, hb⟩
       refine ⟨_, rfl, ?_⟩
       have BX1 := am (BX0.out.trans (hb.mono BX0.out.size))
       clear hb BX0
       refine hK.out _ _ ⟨pw_cell_below BX1.out y, pw_cell_below BX1.out z, pw_cell_below BX1.out a0, pw_cell_below BX1.out a1, pw_cell_below BX1.out b0, pw_cell_below BX1.out b1⟩ (fun hHeld => ?_)
       clear hK K
       refine norm_ (a' := ?_) ?_ ?_
       rotate_left
       ·show Act.put _ (some 154) _ = _
        simp only [Act.put, List.setIfInBounds_toArray, List.set_cons_zero, List.set_cons_succ, i64_w, i32_w]
        rfl
       refine pu (i := 13) (N := some 155) (v := ?_) (a' := ?_) rfl rfl (by kernel_rfl) (fun _ _ _ h => h) (.inl ⟨by rfl, ?_⟩) ?_ ?_; rotate_left
       ·intro w'; go_simp; with_reducible rfl
       rotate_left; · simp only [Act.put, List.setIfInBounds_toArray, List.set_cons_zero, List.set_cons_succ, i64_w, i32_w]; rfl
       refine pu (i := 14) (N := some 156) (v := ?_) (a' := ?_) rfl rfl (by kernel_rfl) (fun _ _ _ h => h) (.inl ⟨by rfl, ?_⟩) ?_ ?_; rotate_left
       ·intro w'; go_simp; with_reducible rfl
       rotate_left; · simp only [Act.put, List.setIfInBounds_toArray, List.set_cons_zero, List.set_cons_succ, i64_w, i32_w]; rfl
       refine pu (i := 15) (N := some 157) (v := ?_) (a' := ?_) rfl rfl (by kernel_rfl) (fun _ _ _ h => h) (.inl ⟨by rfl, ?_⟩) ?_ ?_; rotate_left
       ·intro w'; go_simp; with_reducible rfl
       rotate_left; · simp only [Act.put, List.setIfInBounds_toArray, List.set_cons_zero, List.set_cons_succ, i64_w, i32_w]; rfl
       refine pu (i := 17) (N := some 159) (v := ?_) (a' := ?_) rfl rfl (by kernel_rfl) (fun _ _ _ h => h) (.inl ⟨by rfl, ?_⟩) ?_ ?_; rotate_left
       ·intro w'; go_simp; with_reducible rfl
       rotate_left; · simp only [Act.put, List.setIfInBounds_toArray, List.set_cons_zero, List.set_cons_succ, i64_w, i32_w]; rfl
       refine pu (i := 21) (N := some 163) (v := ?_) (a' := ?_) rfl rfl (by kernel_rfl) (fun _ _ _ h => h) (.inl ⟨by rfl, ?_⟩) ?_ ?_; rotate_left
       ·intro w'; go_simp; with_reducible rfl
       rotate_left; · simp only [Act.put, List.setIfInBounds_toArray, List.set_cons_zero, List.set_cons_succ, i64_w, i32_w]; rfl
       refine pu (i := 23) (N := some 165) (v := ?_) (a' := ?_) rfl rfl (by kernel_rfl) (fun _ _ _ h => h) (.inl ⟨by rfl, ?_⟩) ?_ ?_; rotate_left
       ·intro w'; go_simp; with_reducible rfl
       rotate_left; · simp only [Act.put, List.setIfInBounds_toArray, List.set_cons_zero, List.set_cons_succ, i64_w, i32_w]; rfl
       refine tu (i := 16) (N := some 158) (v := ?_) (a' := ?_) rfl rfl (by kernel_rfl) (fun _ _ _ h => h) (.inl ⟨by rfl, ?_⟩) hHeld ?_ ?_; rotate_left
       ·rintro w' ⟨s0, s1, s2, s3, s4, s5⟩; go_simp; with_reducible rfl
       rotate_left; · simp only [Act.put, List.setIfInBounds_toArray, List.set_cons_zero, List.set_cons_succ, i64_w, i32_w]; rfl
       refine pu (i := 18) (N := some 160) (v := ?_) (a' := ?_) rfl rfl (by kernel_rfl) (fun _ _ _ h => h) (.inl ⟨by rfl, ?_⟩) ?_ ?_; rotate_left
       ·intro w'; go_simp; with_reducible rfl
       rotate_left; · simp only [Act.put, List.setIfInBounds_toArray, List.set_cons_zero, List.set_cons_succ, i64_w, i32_w]; rfl
       refine pu (i := 19) (N := some 161) (v := ?_) (a' := ?_) rfl rfl (by kernel_rfl) (fun _ _ _ h => h) (.inl ⟨by rfl, ?_⟩) ?_ ?_; rotate_left
       ·intro w'; go_simp; with_reducible rfl
       rotate_left; · simp only [Act.put, List.setIfInBounds_toArray, List.set_cons_zero, List.set_cons_succ, i64_w, i32_w]; rfl
       refine tu (i := 20) (N := some 162) (v := ?_) (a' := ?_) rfl rfl (by kernel_rfl) (fun _ _ _ h => h) (.inl ⟨by rfl, ?_⟩) hHeld ?_ ?_; rotate_left
       ·rintro w' ⟨s0, s1, s2, s3, s4, s5⟩; go_simp; with_reducible rfl
       rotate_left; · simp only [Act.put, List.setIfInBounds_toArray, List.set_cons_zero, List.set_cons_succ, i64_w, i32_w]; rfl
       refine tu (i := 22) (N := some 164) (v := ?_) (a' := ?_) rfl rfl (by kernel_rfl) (fun _ _ _ h => h) (.inl ⟨by rfl, ?_⟩) hHeld ?_ ?_; rotate_left
       ·rintro w' ⟨s0, s1, s2, s3, s4, s5⟩; go_simp; with_reducible rfl
       rotate_left; · simp only [Act.put, List.setIfInBounds_toArray, List.set_cons_zero, List.set_cons_succ, i64_w, i32_w]; rfl
       refine pu (i := 24) (N := some 166) (v := ?_) (a' := ?_) rfl rfl (by kernel_rfl) (fun _ _ _ h => h) (.inl ⟨by rfl, ?_⟩) ?_ ?_; rotate_left
       ·intro w'; go_simp; with_reducible rfl
       rotate_left; · simp only [Act.put, List.setIfInBounds_toArray, List.set_cons_zero, List.set_cons_succ, i64_w, i32_w]; rfl
       refine pu (i := 25) (N := some 167) (v := ?_) (a' := ?_) rfl rfl (by kernel_rfl) (fun _ _ _ h => h) (.inl ⟨by rfl, ?_⟩) ?_ ?_; rotate_left
       ·intro w'; go_simp; with_reducible rfl
       rotate_left; · simp only [Act.put, List.setIfInBounds_toArray, List.set_cons_zero, List.set_cons_succ, i64_w, i32_w]; rfl
       refine tu (i := 26) (N := some 168) (v := ?_) (a' := ?_) rfl rfl (by kernel_rfl) (fun _ _ _ h => h) (.inl ⟨by rfl, ?_⟩) hHeld ?_ ?_; rotate_left
       ·rintro w' ⟨s0, s1, s2, s3, s4, s5⟩; go_simp; with_reducible rfl
       rotate_left; · simp only [Act.put, List.setIfInBounds_toArray, List.set_cons_zero, List.set_cons_succ, i64_w, i32_w]; rfl
       refine one_ (i := 27) (N := some 169) #[true, true, true, true, true, true, true, true, true, true, true, true, true, true, true, true, true, true, true, true, true, true, true, true, true, true, true, true, false, false] rfl rfl (by kernel_rfl) (by decide) (fun K hK => ?_)
       refine goes_ Tryd.func30 (by kernel_rfl) rfl #[.slice P1 x.f1.length p1c, .slice Q1 x.f1.length q1c] (by rfl) rfl rfl (by simp only [List.map_toArray, List.map_cons, List.map_nil]; rfl) ?_
       with_reducible refine (ESame.sameInts_eq (Kd.C_below U1.out BX1.out) u1 (Kd.C_below V1.out BX1.out) v1).mono ?_
       rintro e u1w ⟨rfl, hb⟩
       refine ⟨_, rfl, ?_⟩
       have BX2 := am (BX1.out.trans (hb.mono BX1.out.size))
       clear hb BX1
       refine hK.out _ _ ⟨pw_cell_below BX2.out y, pw_cell_below BX2.out z, pw_cell_below BX2.out a0, pw_cell_below BX2.out a1, pw_cell_below BX2.out b0, pw_cell_below BX2.out b1⟩ (fun hHeld => ?_)
       clear hK K
       refine norm_ (a' := ?_) ?_ ?_
       rotate_left
       ·show Act.put _ (some 169) _ = _
        simp only [Act.put, List.setIfInBounds_toArray, List.set_cons_zero, List.set_cons_succ, i64_w, i32_w]
        rfl
       refine pu (i := 28) (N := some 170) (v := ?_) (a' := ?_) rfl rfl (by kernel_rfl) (fun _ _ _ h => h) (.inl ⟨by rfl, ?_⟩) ?_ ?_; rotate_left
       ·intro w'; go_simp; with_reducible rfl
       rotate_left; · simp only [Act.put, List.setIfInBounds_toArray, List.set_cons_zero, List.set_cons_succ, i64_w, i32_w]; rfl
       refine pu (i := 29) (N := some 171) (v := ?_) (a' := ?_) rfl rfl (by kernel_rfl) (fun _ _ _ h => h) (.inl ⟨by rfl, ?_⟩) ?_ ?_; rotate_left
       ·intro w'; go_simp; with_reducible rfl
       rotate_left; · simp only [Act.put, List.setIfInBounds_toArray, List.set_cons_zero, List.set_cons_succ, i64_w, i32_w]; rfl
       refine done_ (by kernel_rfl) ?_
       
       go_wp2
       go_roundg (m.elems.length - (i + 1))
       case measure => have := I0.out; have := HLT.out; omega
       case rel => exact ⟨i + 1, by have := HLT.out; omega, by go_num, blk_below' K1.out BX2.out, blk_below' K2.out BX2.out, BW.out.trans (BX2.out.mono BW.out.size)⟩
      ·have dl : decide (i < m.elems.length) = false := decide_eq_false hlt
       have dl2 : decide ((i : Int) < (m.elems.length : Int)) = false := decide_eq_false (by omega)
       have y : wr.cell? ⟨g1, 8, none⟩ = some (.slice A8 m.elems.length c8) := blk_cell K1.out 8
       clear hlt I0
       go_wp2
       go_loopg [8] m.codes.length (fun n v8 wr => ∃ i : Nat, i + n = m.codes.length ∧ v8 = .int .i64 i ∧ wr.heap[g1]? = some (.cells #[.slice A0 m.types.length c0, .slice A1 m.imports.length c1, .slice A2 m.funcs.length c2, .slice A3 m.tables.length c3, .slice A4 m.mems.length c4, .slice A5 m.globals.length c5, .slice A6 m.exports.length c6, .int .i64 m.start, .slice A8 m.elems.length c8, .slice A9 m.codes.length c9, .slice A10 m.datas.length c10] 33 (0, 0)) ∧ wr.heap[g2]? = some (.cells #[.slice B0 m.types.length d0, .slice B1 m.imports.length d1, .slice B2 m.funcs.length d2, .slice B3 m.tables.length d3, .slice B4 m.mems.length d4, .slice B5 m.globals.length d5, .slice B6 m.exports.length d6, .int .i64 m.start, .slice B8 m.elems.length d8, .slice B9 m.codes.length d9, .slice B10 m.datas.length d10] 33 (0, 0)) ∧ Below W.heap.size W wr)
       case atStart => exact ⟨0, by omega, rfl, K1.out, K2.out, BW.out⟩
       case round =>
        obtain ⟨i, hi, rfl, h1, h2, h3⟩ := hrel
        clear K1 K2 BW
        have I0 := am hi
        have K1 := am h1
        have K2 := am h2
        have BW := am h3
        clear hi h1 h2 h3
        by_cases hlt : i < m.codes.length
        ·have dl : decide (i < m.codes.length) = true := decide_eq_true hlt
         have dl2 : decide ((i : Int) < (m.codes.length : Int)) = true := decide_eq_true (by omega)
         have hi0 : (0 : Int) ≤ (i : Int) := by omega
         have HLT := am hlt
         have y : wr.cell? ⟨g1, 9, none⟩ = some (.slice A9 m.codes.length c9) := blk_cell K1.out 9
         have z : wr.cell? ⟨g2, 9, none⟩ = some (.slice B9 m.codes.length d9) := blk_cell K2.out 9
         obtain ⟨ad, P0, p0c, P1, p1c, eA, a0, a1, u0, U0, u1, U1⟩ := at_T57 (Kd.C_below HC9.out BW.out) (i : Int) (by omega) (by omega)
         obtain ⟨bd, Q0, q0c, Q1, q1c, eB, b0, b1, v0, V0, v1, V1⟩ := at_T57 (Kd.C_below HD9.out BW.out) (i : Int) (by omega) (by omega)
         subst eA eB
         have ML : (m.codes.length : Int) ≤ 9223372036854775807 := MX9.out
         have w1 : wrap64 ((i : Int) + 1) = (i : Int) + 1 := by unfold wrap64; omega
         generalize rd_T57 m.codes (i : Int) = x at *
         simp only [Int.toNat_natCast] at a0 a1 b0 b1
         have U0' := am U0; have V0' := am V0; clear U0 V0; have U0 := U0'; have V0 := V0'; clear U0' V0'
         have U1' := am U1; have V1' := am V1; clear U1 V1; have U1 := U1'; have V1 := V1'; clear U1' V1'
         have BX0 : Aside0 (Below wr.heap.size wr wr.drew) := ⟨below_drew (Below.refl _ _)⟩
         go_wp2
         refine start_ (n := 30) (S := fun w' => w'.cell? ⟨g1, 9, none⟩ = some (.slice (some ad) m.codes.length c9) ∧ w'.cell? ⟨g2, 9, none⟩ = some (.slice (some bd) m.codes.length d9) ∧ w'.cell? (ad.add (i * 2)) = some (.slice P0 x.f0.length p0c) ∧ w'.cell? ⟨(ad.add (i * 2)).block, (ad.add (i * 2)).off + 1, none⟩ = some (.slice P1 x.f1.length p1c) ∧ w'.cell? (bd.add (i * 2)) = some (.slice Q0 x.f0.length q0c) ∧ w'.cell? ⟨(bd.add (i * 2)).block, (bd.add (i * 2)).off + 1, none⟩ = some (.slice Q1 x.f1.length q1c)) (ds := []) #[false, false, false, false, false, false, false, false, false, false, false, false, false, false, false, false, false, false, false, false, false, false, false, false, false, false, false, false, false, false] (by kernel_rfl) rfl rfl ⟨y, z, a0, a1, b0, b1⟩ (fun hHeld => ?_)
         refine pu (i := 0) (N := some 179) (v := ?_) (a' := ?_) rfl rfl (by kernel_rfl) (fun _ _ _ h => h) (.inl ⟨by rfl, ?_⟩) ?_ ?_; rotate_left
         ·intro w'; go_simp; with_reducible rfl
         rotate_left; · simp only [Act.put, List.setIfInBounds_toArray, List.set_cons_zero, List.set_cons_succ, i64_w, i32_w]; rfl
         refine pu (i := 2) (N := some 181) (v := ?_) (a' := ?_) rfl rfl (by kernel_rfl) (fun _ _ _ h => h) (.inl ⟨by rfl, ?_⟩) ?_ ?_; rotate_left
         ·intro w'; go_simp; with_reducible rfl
         rotate_left; · simp only [Act.put, List.setIfInBounds_toArray, List.set_cons_zero, List.set_cons_succ, i64_w, i32_w]; rfl
         refine pu (i := 6) (N := some 185) (v := ?_) (a' := ?_) rfl rfl (by kernel_rfl) (fun _ _ _ h => h) (.inl ⟨by rfl, ?_⟩) ?_ ?_; rotate_left
         ·intro w'; go_simp; with_reducible rfl
         rotate_left; · simp only [Act.put, List.setIfInBounds_toArray, List.set_cons_zero, List.set_cons_succ, i64_w, i32_w]; rfl
         refine pu (i := 8) (N := some 187) (v := ?_) (a' := ?_) rfl rfl (by kernel_rfl) (fun _ _ _ h => h) (.inl ⟨by rfl, ?_⟩) ?_ ?_; rotate_left
         ·intro w'; go_simp; with_reducible rfl
         rotate_left; · simp only [Act.put, List.setIfInBounds_toArray, List.set_cons_zero, List.set_cons_succ, i64_w, i32_w]; rfl
         refine tu (i := 1) (N := some 180) (v := ?_) (a' := ?_) rfl rfl (by kernel_rfl) (fun _ _ _ h => h) (.inl ⟨by rfl, ?_⟩) hHeld ?_ ?_; rotate_left
         ·rintro w' ⟨s0, s1, s2, s3, s4, s5⟩; go_simp; with_reducible rfl
         rotate_left; · simp only [Act.put, List.setIfInBounds_toArray, List.set_cons_zero, List.set_cons_succ, i64_w, i32_w]; rfl
         refine pu (i := 3) (N := some 182) (v := ?_) (a' := ?_) rfl rfl (by kernel_rfl) (fun _ _ _ h => h) (.inl ⟨by rfl, ?_⟩) ?_ ?_; rotate_left
         ·intro w'; go_simp; with_reducible rfl
         rotate_left; · simp only [Act.put, List.setIfInBounds_toArray, List.set_cons_zero, List.set_cons_succ, i64_w, i32_w]; rfl
         refine pu (i := 4) (N := some 183) (v := ?_) (a' := ?_) rfl rfl (by kernel_rfl) (fun _ _ _ h => h) (.inl ⟨by rfl, ?_⟩) ?_ ?_; rotate_left
         ·intro w'; go_simp; with_reducible rfl
         rotate_left; · simp only [Act.put, List.setIfInBounds_toArray, List.set_cons_zero, List.set_cons_succ, i64_w, i32_w]; rfl
         refine tu (i := 5) (N := some 184) (v := ?_) (a' := ?_) rfl rfl (by kernel_rfl) (fun _ _ _ h => h) (.inl ⟨by rfl, ?_⟩) hHeld ?_ ?_; rotate_left
         ·rintro w' ⟨s0, s1, s2, s3, s4, s5⟩; go_simp; with_reducible rfl
         rotate_left; · simp only [Act.put, List.setIfInBounds_toArray, List.set_cons_zero, List.set_cons_succ, i64_w, i32_w]; rfl
         refine tu (i := 7) (N := some 186) (v := ?_) (a' := ?_) rfl rfl (by kernel_rfl) (fun _ _ _ h => h) (.inl ⟨by rfl, ?_⟩) hHeld ?_ ?_; rotate_left
         ·rintro w' ⟨s0, s1, s2, s3, s4, s5⟩; go_simp; with_reducible rfl
         rotate_left; · simp only [Act.put, List.setIfInBounds_toArray, List.set_cons_zero, List.set_cons_succ, i64_w, i32_w]; rfl
         refine pu (i := 9) (N := some 188) (v := ?_) (a' := ?_) rfl rfl (by kernel_rfl) (fun _ _ _ h => h) (.inl ⟨by rfl, ?_⟩) ?_ ?_; rotate_left
         ·intro w'; go_simp; with_reducible rfl
         rotate_left; · simp only [Act.put, List.setIfInBounds_toArray, List.set_cons_zero, List.set_cons_succ, i64_w, i32_w]; rfl
         refine pu (i := 10) (N := some 189) (v := ?_) (a' := ?_) rfl rfl (by kernel_rfl) (fun _ _ _ h => h) (.inl ⟨by rfl, ?_⟩) ?_ ?_; rotate_left
         ·intro w'; go_simp; with_reducible rfl
         rotate_left; · simp only [Act.put, List.setIfInBounds_toArray, List.set_cons_zero, List.set_cons_succ, i64_w, i32_w]; rfl
         refine tu (i := 11) (N := some 190) (v := ?_) (a' := ?_) rfl rfl (by kernel_rfl) (fun _ _ _ h => h) (.inl ⟨by rfl, ?_⟩) hHeld ?_ ?_; rotate_left
         ·rintro w' ⟨s0, s1, s2, s3, s4, s5⟩; go_simp; with_reducible rfl
         rotate_left; · simp only [Act.put, List.setIfInBounds_toArray, List.set_cons_zero, List.set_cons_succ, i64_w, i32_w]; rfl
         refine one_ (i := 12) (N := some 191) #[true, true, true, true, true, true, true, true, true, true, true, true, true, false, false, false, false, false, false, false, false, false, false, false, false, false, false, false, false, false] rfl rfl (by kernel_rfl) (by decide) (fun K hK => ?_)
         refine goes_ Tryd.func30 (by kernel_rfl) rfl #[.slice P0 x.f0.length p0c, .slice Q0 x.f0.length q0c] (by rfl) rfl rfl (by simp only [List.map_toArray, List.map_cons, List.map_nil]; rfl) ?_
         with_reducible refine (ESame.sameInts_eq (Kd.C_below U0.out BX0.out) u0 (Kd.C_below V0.out BX0.out) v0).mono ?_
         rintro e u0w ⟨rfl, hb⟩
         refine ⟨_, rfl, ?_⟩
         have BX1 := am (BX0.out.trans (hb.mono BX0.out.size))
         clear hb BX0
         refine hK.out _ _ ⟨pw_cell_below BX1.out y, pw_cell_below BX1.out z, pw_cell_below BX1.out a0, pw_cell_below BX1.out a1, pw_cell_below BX1.out b0, pw_cell_below BX1.out b1⟩ (fun hHeld => ?_)
         clear hK K
         refine norm_ (a' := ?_) ?_ ?_
         rotate_left
         ·show Act.put _ (some 191) _ = _
          simp only [Act.put, List.setIfInBounds_toArray, List.set_cons_zero, List.set_cons_succ, i64_w, i32_w]
          rfl
         refine pu (i := 13) (N := some 192) (v := ?_) (a' := ?_) rfl rfl (by kernel_rfl) (fun _ _ _ h => h) (.inl ⟨by rfl, ?_⟩) ?_ ?_; rotate_left
         ·intro w'; go_simp; with_reducible rfl
         rotate_left; · simp only [Act.put, List.setIfInBounds_toArray, List.set_cons_zero, List.set_cons_succ, i64_w, i32_w]; rfl
         refine pu (i := 14) (N := some 193) (v := ?_) (a' := ?_) rfl rfl (by kernel_rfl) (fun _ _ _ h => h) (.inl ⟨by rfl, ?_⟩) ?_ ?_; rotate_left
         ·intro w'; go_simp; with_reducible rfl
         rotate_left; · simp only [Act.put, List.setIfInBounds_toArray, List.set_cons_zero, List.set_cons_succ, i64_w, i32_w]; rfl
         refine pu (i := 15) (N := some 194) (v := ?_) (a' := ?_) rfl rfl (by kernel_rfl) (fun _ _ _ h => h) (.inl ⟨by rfl, ?_⟩) ?_ ?_; rotate_left
         ·intro w'; go_simp; with_reducible rfl
         rotate_left; · simp only [Act.put, List.setIfInBounds_toArray, List.set_cons_zero, List.set_cons_succ, i64_w, i32_w]; rfl
         refine pu (i := 17) (N := some 196) (v := ?_) (a' := ?_) rfl rfl (by kernel_rfl) (fun _ _ _ h => h) (.inl ⟨by rfl, ?_⟩) ?_ ?_; rotate_left
         ·intro w'; go_simp; with_reducible rfl
         rotate_left; · simp only [Act.put, List.setIfInBounds_toArray, List.set_cons_zero, List.set_cons_succ, i64_w, i32_w]; rfl
         refine pu (i := 21) (N := some 200) (v := ?_) (a' := ?_) rfl rfl (by kernel_rfl) (fun _ _ _ h => h) (.inl ⟨by rfl, ?_⟩) ?_ ?_; rotate_left
         ·intro w'; go_simp; with_reducible rfl
         rotate_left; · simp only [Act.put, List.setIfInBounds_toArray, List.set_cons_zero, List.set_cons_succ, i64_w, i32_w]; rfl
         refine pu (i := 23) (N := some 202) (v := ?_) (a' := ?_) rfl rfl (by kernel_rfl) (fun _ _ _ h => h) (.inl ⟨by rfl, ?_⟩) ?_ ?_; rotate_left
         ·intro w'; go_simp; with_reducible rfl
         rotate_left; · simp only [Act.put, List.setIfInBounds_toArray, List.set_cons_zero, List.set_cons_succ, i64_w, i32_w]; rfl
         refine tu (i := 16) (N := some 195) (v := ?_) (a' := ?_) rfl rfl (by kernel_rfl) (fun _ _ _ h => h) (.inl ⟨by rfl, ?_⟩) hHeld ?_ ?_; rotate_left
         ·rintro w' ⟨s0, s1, s2, s3, s4, s5⟩; go_simp; with_reducible rfl
         rotate_left; · simp only [Act.put, List.setIfInBounds_toArray, List.set_cons_zero, List.set_cons_succ, i64_w, i32_w]; rfl
         refine pu (i := 18) (N := some 197) (v := ?_) (a' := ?_) rfl rfl (by kernel_rfl) (fun _ _ _ h => h) (.inl ⟨by rfl, ?_⟩) ?_ ?_; rotate_left
         ·intro w'; go_simp; with_reducible rfl
         rotate_left; · simp only [Act.put, List.setIfInBounds_toArray, List.set_cons_zero, List.set_cons_succ, i64_w, i32_w]; rfl
         refine pu (i := 19) (N := some 198) (v := ?_) (a' := ?_) rfl rfl (by kernel_rfl) (fun _ _ _ h => h) (.inl ⟨by rfl, ?_⟩) ?_ ?_; rotate_left
         ·intro w'; go_simp; with_reducible rfl
         rotate_left; · simp only [Act.put, List.setIfInBounds_toArray, List.set_cons_zero, List.set_cons_succ, i64_w, i32_w]; rfl
         refine tu (i := 20) (N := some 199) (v := ?_) (a' := ?_) rfl rfl (by kernel_rfl) (fun _ _ _ h => h) (.inl ⟨by rfl, ?_⟩) hHeld ?_ ?_; rotate_left
         ·rintro w' ⟨s0, s1, s2, s3, s4, s5⟩; go_simp; with_reducible rfl
         rotate_left; · simp only [Act.put, List.setIfInBounds_toArray, List.set_cons_zero, List.set_cons_succ, i64_w, i32_w]; rfl
         refine tu (i := 22) (N := some 201) (v := ?_) (a' := ?_) rfl rfl (by kernel_rfl) (fun _ _ _ h => h) (.inl ⟨by rfl, ?_⟩) hHeld ?_ ?_; rotate_left
         ·rintro w' ⟨s0, s1, s2, s3, s4, s5⟩; go_simp; with_reducible rfl
         rotate_left; · simp only [Act.put, List.setIfInBounds_toArray, List.set_cons_zero, List.set_cons_succ, i64_w, i32_w]; rfl
         refine pu (i := 24) (N := some 203) (v := ?_) (a' := ?_) rfl rfl (by kernel_rfl) (fun _ _ _ h => h) (.inl ⟨by rfl, ?_⟩) ?_ ?_; rotate_left
         ·intro w'; go_simp; with_reducible rfl
         rotate_left; · simp only [Act.put, List.setIfInBounds_toArray, List.set_cons_zero, List.set_cons_succ, i64_w, i32_w]; rfl
         refine pu (i := 25) (N := some 204) (v := ?_) (a' := ?_) rfl rfl (by kernel_rfl) (fun _ _ _ h => h) (.inl ⟨by rfl, ?_⟩) ?_ ?_; rotate_left
         ·intro w'; go_simp; with_reducible rfl
         rotate_left; · simp only [Act.put, List.setIfInBounds_toArray, List.set_cons_zero, List.set_cons_succ, i64_w, i32_w]; rfl
         refine tu (i := 26) (N := some 205) (v := ?_) (a' := ?_) rfl rfl (by kernel_rfl) (fun _ _ _ h => h) (.inl ⟨by rfl, ?_⟩) hHeld ?_ ?_; rotate_left
         ·rintro w' ⟨s0, s1, s2, s3, s4, s5⟩; go_simp; with_reducible rfl
         rotate_left; · simp only [Act.put, List.setIfInBounds_toArray, List.set_cons_zero, List.set_cons_succ, i64_w, i32_w]; rfl
         refine one_ (i := 27) (N := some 206) #[true, true, true, true, true, true, true, true, true, true, true, true, true, true, true, true, true, true, true, true, true, true, true, true, true, true, true, true, false, false] rfl rfl (by kernel_rfl) (by decide) (fun K hK => ?_)
         refine goes_ Tryd.func29 (by kernel_rfl) rfl #[.slice P1 x.f1.length p1c, .slice Q1 x.f1.length q1c] (by rfl) rfl rfl (by simp only [List.map_toArray, List.map_cons, List.map_nil]; rfl) ?_
         with_reducible refine (ESame.same_size _ x.f1 (Nat.le_refl _) _ (Kd.C_below U1.out BX1.out) u1 (Kd.C_below V1.out BX1.out) v1).mono ?_
         rintro e u1w ⟨rfl, hb⟩
         refine ⟨_, rfl, ?_⟩
         have BX2 := am (BX1.out.trans (hb.mono BX1.out.size))
         clear hb BX1
         refine hK.out _ _ ⟨pw_cell_below BX2.out y, pw_cell_below BX2.out z, pw_cell_below BX2.out a0, pw_cell_below BX2.out a1, pw_cell_below BX2.out b0, pw_cell_below BX2.out b1⟩ (fun hHeld => ?_)
         clear hK K
         refine norm_ (a' := ?_) ?_ ?_
         rotate_left
         ·show Act.put _ (some 206) _ = _
          simp only [Act.put, List.setIfInBounds_toArray, List.set_cons_zero, List.set_cons_succ, i64_w, i32_w]
          rfl
         refine pu (i := 28) (N := some 207) (v := ?_) (a' := ?_) rfl rfl (by kernel_rfl) (fun _ _ _ h => h) (.inl ⟨by rfl, ?_⟩) ?_ ?_; rotate_left
         ·intro w'; go_simp; with_reducible rfl
         rotate_left; · simp only [Act.put, List.setIfInBounds_toArray, List.set_cons_zero, List.set_cons_succ, i64_w, i32_w]; rfl
         refine pu (i := 29) (N := some 208) (v := ?_) (a' := ?_) rfl rfl (by kernel_rfl) (fun _ _ _ h => h) (.inl ⟨by rfl, ?_⟩) ?_ ?_; rotate_left
         ·intro w'; go_simp; with_reducible rfl
         rotate_left; · simp only [Act.put, List.setIfInBounds_toArray, List.set_cons_zero, List.set_cons_succ, i64_w, i32_w]; rfl
         refine done_ (by kernel_rfl) ?_
         
         go_wp2
         go_roundg (m.codes.length - (i + 1))
         case measure => have := I0.out; have := HLT.out; omega
         case rel => exact ⟨i + 1, by have := HLT.out; omega, by go_num, blk_below' K1.out BX2.out, blk_below' K2.out BX2.out, BW.out.trans (BX2.out.mono BW.out.size)⟩
        ·have dl : decide (i < m.codes.length) = false := decide_eq_false hlt
         have dl2 : decide ((i : Int) < (m.codes.length : Int)) = false := decide_eq_false (by omega)
         have y : wr.cell? ⟨g1, 9, none⟩ = some (.slice A9 m.codes.length c9) := blk_cell K1.out 9
         clear hlt I0
         go_wp2
         go_loopg [9] m.datas.length (fun n v9 wr => ∃ i : Nat, i + n = m.datas.length ∧ v9 = .int .i64 i ∧ wr.heap[g1]? = some (.cells #[.slice A0 m.types.length c0, .slice A1 m.imports.length c1, .slice A2 m.funcs.length c2, .slice A3 m.tables.length c3, .slice A4 m.mems.length c4, .slice A5 m.globals.length c5, .slice A6 m.exports.length c6, .int .i64 m.start, .slice A8 m.elems.length c8, .slice A9 m.codes.length c9, .slice A10 m.datas.length c10] 33 (0, 0)) ∧ wr.heap[g2]? = some (.cells #[.slice B0 m.types.length d0, .slice B1 m.imports.length d1, .slice B2 m.funcs.length d2, .slice B3 m.tables.length d3, .slice B4 m.mems.length d4, .slice B5 m.globals.length d5, .slice B6 m.exports.length d6, .int .i64 m.start, .slice B8 m.elems.length d8, .slice B9 m.codes.length d9, .slice B10 m.datas.length d10] 33 (0, 0)) ∧ Below W.heap.size W wr)
         case atStart => exact ⟨0, by omega, rfl, K1.out, K2.out, BW.out⟩
         case round =>
          obtain ⟨i, hi, rfl, h1, h2, h3⟩ := hrel
          clear K1 K2 BW
          have I0 := am hi
          have K1 := am h1
          have K2 := am h2
          have BW := am h3
          clear hi h1 h2 h3
          by_cases hlt : i < m.datas.length
          ·have dl : decide (i < m.datas.length) = true := decide_eq_true hlt
           have dl2 : decide ((i : Int) < (m.datas.length : Int)) = true := decide_eq_true (by omega)
           have hi0 : (0 : Int) ≤ (i : Int) := by omega
           have HLT := am hlt
           have y : wr.cell? ⟨g1, 10, none⟩ = some (.slice A10 m.datas.length c10) := blk_cell K1.out 10
           have z : wr.cell? ⟨g2, 10, none⟩ = some (.slice B10 m.datas.length d10) := blk_cell K2.out 10
           obtain ⟨ad, P0, p0c, eA, a0, a1, u0, U0⟩ := at_T80 (Kd.C_below HC10.out BW.out) (i : Int) (by omega) (by omega)
           obtain ⟨bd, Q0, q0c, eB, b0, b1, v0, V0⟩ := at_T80 (Kd.C_below HD10.out BW.out) (i : Int) (by omega) (by omega)
           subst eA eB
           have ML : (m.datas.length : Int) ≤ 9223372036854775807 := MX10.out
           have w1 : wrap64 ((i : Int) + 1) = (i : Int) + 1 := by unfold wrap64; omega
           generalize rd_T80 m.datas (i : Int) = x at *
           simp only [Int.toNat_natCast] at a0 a1 b0 b1
           have U0' := am U0; have V0' := am V0; clear U0 V0; have U0 := U0'; have V0 := V0'; clear U0' V0'
           have BX0 : Aside0 (Below wr.heap.size wr wr.drew) := ⟨below_drew (Below.refl _ _)⟩
           go_wp2
           refine start_ (n := 29) (S := fun w' => w'.cell? ⟨g1, 10, none⟩ = some (.slice (some ad) m.datas.length c10) ∧ w'.cell? ⟨g2, 10, none⟩ = some (.slice (some bd) m.datas.length d10) ∧ w'.cell? (ad.add (i * 2)) = some (.slice P0 x.f0.length p0c) ∧ w'.cell? ⟨(ad.add (i * 2)).block, (ad.add (i * 2)).off + 1, none⟩ = some (.string x.f1) ∧ w'.cell? (bd.add (i * 2)) = some (.slice Q0 x.f0.length q0c) ∧ w'.cell? ⟨(bd.add (i * 2)).block, (bd.add (i * 2)).off + 1, none⟩ = some (.string x.f1)) (ds := []) #[false, false, false, false, false, false, false, false, false, false, false, false, false, false, false, false, false, false, false, false, false, false, false, false, false, false, false, false, false] (by kernel_rfl) rfl rfl ⟨y, z, a0, a1, b0, b1⟩ (fun hHeld => ?_)
           refine pu (i := 0) (N := some 216) (v := ?_) (a' := ?_) rfl rfl (by kernel_rfl) (fun _ _ _ h => h) (.inl ⟨by rfl, ?_⟩) ?_ ?_; rotate_left
           ·intro w'; go_simp; with_reducible rfl
           rotate_left; · simp only [Act.put, List.setIfInBounds_toArray, List.set_cons_zero, List.set_cons_succ, i64_w, i32_w]; rfl
           refine pu (i := 2) (N := some 218) (v := ?_) (a' := ?_) rfl rfl (by kernel_rfl) (fun _ _ _ h => h) (.inl ⟨by rfl, ?_⟩) ?_ ?_; rotate_left
           ·intro w'; go_simp; with_reducible rfl
           rotate_left; · simp only [Act.put, List.setIfInBounds_toArray, List.set_cons_zero, List.set_cons_succ, i64_w, i32_w]; rfl
           refine pu (i := 6) (N := some 222) (v := ?_) (a' := ?_) rfl rfl (by kernel_rfl) (fun _ _ _ h => h) (.inl ⟨by rfl, ?_⟩) ?_ ?_; rotate_left
           ·intro w'; go_simp; with_reducible rfl
           rotate_left; · simp only [Act.put, List.setIfInBounds_toArray, List.set_cons_zero, List.set_cons_succ, i64_w, i32_w]; rfl
           refine pu (i := 8) (N := some 224) (v := ?_) (a' := ?_) rfl rfl (by kernel_rfl) (fun _ _ _ h => h) (.inl ⟨by rfl, ?_⟩) ?_ ?_; rotate_left
           ·intro w'; go_simp; with_reducible rfl
           rotate_left; · simp only [Act.put, List.setIfInBounds_toArray, List.set_cons_zero, List.set_cons_succ, i64_w, i32_w]; rfl
           refine tu (i := 1) (N := some 217) (v := ?_) (a' := ?_) rfl rfl (by kernel_rfl) (fun _ _ _ h => h) (.inl ⟨by rfl, ?_⟩) hHeld ?_ ?_; rotate_left
           ·rintro w' ⟨s0, s1, s2, s3, s4, s5⟩; go_simp; with_reducible rfl
           rotate_left; · simp only [Act.put, List.setIfInBounds_toArray, List.set_cons_zero, List.set_cons_succ, i64_w, i32_w]; rfl
           refine pu (i := 3) (N := some 219) (v := ?_) (a' := ?_) rfl rfl (by kernel_rfl) (fun _ _ _ h => h) (.inl ⟨by rfl, ?_⟩) ?_ ?_; rotate_left
           ·intro w'; go_simp; with_reducible rfl
           rotate_left; · simp only [Act.put, List.setIfInBounds_toArray, List.set_cons_zero, List.set_cons_succ, i64_w, i32_w]; rfl
           refine pu (i := 4) (N := some 220) (v := ?_) (a' := ?_) rfl rfl (by kernel_rfl) (fun _ _ _ h => h) (.inl ⟨by rfl, ?_⟩) ?_ ?_; rotate_left
           ·intro w'; go_simp; with_reducible rfl
           rotate_left; · simp only [Act.put, List.setIfInBounds_toArray, List.set_cons_zero, List.set_cons_succ, i64_w, i32_w]; rfl
           refine tu (i := 5) (N := some 221) (v := ?_) (a' := ?_) rfl rfl (by kernel_rfl) (fun _ _ _ h => h) (.inl ⟨by rfl, ?_⟩) hHeld ?_ ?_; rotate_left
           ·rintro w' ⟨s0, s1, s2, s3, s4, s5⟩; go_simp; with_reducible rfl
           rotate_left; · simp only [Act.put, List.setIfInBounds_toArray, List.set_cons_zero, List.set_cons_succ, i64_w, i32_w]; rfl
           refine tu (i := 7) (N := some 223) (v := ?_) (a' := ?_) rfl rfl (by kernel_rfl) (fun _ _ _ h => h) (.inl ⟨by rfl, ?_⟩) hHeld ?_ ?_; rotate_left
           ·rintro w' ⟨s0, s1, s2, s3, s4, s5⟩; go_simp; with_reducible rfl
           rotate_left; · simp only [Act.put, List.setIfInBounds_toArray, List.set_cons_zero, List.set_cons_succ, i64_w, i32_w]; rfl
           refine pu (i := 9) (N := some 225) (v := ?_) (a' := ?_) rfl rfl (by kernel_rfl) (fun _ _ _ h => h) (.inl ⟨by rfl, ?_⟩) ?_ ?_; rotate_left
           ·intro w'; go_simp; with_reducible rfl
           rotate_left; · simp only [Act.put, List.setIfInBounds_toArray, List.set_cons_zero, List.set_cons_succ, i64_w, i32_w]; rfl
           refine pu (i := 10) (N := some 226) (v := ?_) (a' := ?_) rfl rfl (by kernel_rfl) (fun _ _ _ h => h) (.inl ⟨by rfl, ?_⟩) ?_ ?_; rotate_left
           ·intro w'; go_simp; with_reducible rfl
           rotate_left; · simp only [Act.put, List.setIfInBounds_toArray, List.set_cons_zero, List.set_cons_succ, i64_w, i32_w]; rfl
           refine tu (i := 11) (N := some 227) (v := ?_) (a' := ?_) rfl rfl (by kernel_rfl) (fun _ _ _ h => h) (.inl ⟨by rfl, ?_⟩) hHeld ?_ ?_; rotate_left
           ·rintro w' ⟨s0, s1, s2, s3, s4, s5⟩; go_simp; with_reducible rfl
           rotate_left; · simp only [Act.put, List.setIfInBounds_toArray, List.set_cons_zero, List.set_cons_succ, i64_w, i32_w]; rfl
           refine one_ (i := 12) (N := some 228) #[true, true, true, true, true, true, true, true, true, true, true, true, true, false, false, false, false, false, false, false, false, false, false, false, false, false, false, false, false] rfl rfl (by kernel_rfl) (by decide) (fun K hK => ?_)
           refine goes_ Tryd.func29 (by kernel_rfl) rfl #[.slice P0 x.f0.length p0c, .slice Q0 x.f0.length q0c] (by rfl) rfl rfl (by simp only [List.map_toArray, List.map_cons, List.map_nil]; rfl) ?_
           with_reducible refine (ESame.same_size _ x.f0 (Nat.le_refl _) _ (Kd.C_below U0.out BX0.out) u0 (Kd.C_below V0.out BX0.out) v0).mono ?_
           rintro e u0w ⟨rfl, hb⟩
           refine ⟨_, rfl, ?_⟩
           have BX1 := am (BX0.out.trans (hb.mono BX0.out.size))
           clear hb BX0
           refine hK.out _ _ ⟨pw_cell_below BX1.out y, pw_cell_below BX1.out z, pw_cell_below BX1.out a0, pw_cell_below BX1.out a1, pw_cell_below BX1.out b0, pw_cell_below BX1.out b1⟩ (fun hHeld => ?_)
           clear hK K
           refine norm_ (a' := ?_) ?_ ?_
           rotate_left
           ·show Act.put _ (some 228) _ = _
            simp only [Act.put, List.setIfInBounds_toArray, List.set_cons_zero, List.set_cons_succ, i64_w, i32_w]
            rfl
           refine pu (i := 13) (N := some 229) (v := ?_) (a' := ?_) rfl rfl (by kernel_rfl) (fun _ _ _ h => h) (.inl ⟨by rfl, ?_⟩) ?_ ?_; rotate_left
           ·intro w'; go_simp; with_reducible rfl
           rotate_left; · simp only [Act.put, List.setIfInBounds_toArray, List.set_cons_zero, List.set_cons_succ, i64_w, i32_w]; rfl
           refine pu (i := 14) (N := some 230) (v := ?_) (a' := ?_) rfl rfl (by kernel_rfl) (fun _ _ _ h => h) (.inl ⟨by rfl, ?_⟩) ?_ ?_; rotate_left
           ·intro w'; go_simp; with_reducible rfl
           rotate_left; · simp only [Act.put, List.setIfInBounds_toArray, List.set_cons_zero, List.set_cons_succ, i64_w, i32_w]; rfl
           refine pu (i := 15) (N := some 231) (v := ?_) (a' := ?_) rfl rfl (by kernel_rfl) (fun _ _ _ h => h) (.inl ⟨by rfl, ?_⟩) ?_ ?_; rotate_left
           ·intro w'; go_simp; with_reducible rfl
           rotate_left; · simp only [Act.put, List.setIfInBounds_toArray, List.set_cons_zero, List.set_cons_succ, i64_w, i32_w]; rfl
           refine pu (i := 17) (N := some 233) (v := ?_) (a' := ?_) rfl rfl (by kernel_rfl) (fun _ _ _ h => h) (.inl ⟨by rfl, ?_⟩) ?_ ?_; rotate_left
           ·intro w'; go_simp; with_reducible rfl
           rotate_left; · simp only [Act.put, List.setIfInBounds_toArray, List.set_cons_zero, List.set_cons_succ, i64_w, i32_w]; rfl
           refine pu (i := 21) (N := some 237) (v := ?_) (a' := ?_) rfl rfl (by kernel_rfl) (fun _ _ _ h => h) (.inl ⟨by rfl, ?_⟩) ?_ ?_; rotate_left
           ·intro w'; go_simp; with_reducible rfl
           rotate_left; · simp only [Act.put, List.setIfInBounds_toArray, List.set_cons_zero, List.set_cons_succ, i64_w, i32_w]; rfl
           refine pu (i := 23) (N := some 239) (v := ?_) (a' := ?_) rfl rfl (by kernel_rfl) (fun _ _ _ h => h) (.inl ⟨by rfl, ?_⟩) ?_ ?_; rotate_left
           ·intro w'; go_simp; with_reducible rfl
           rotate_left; · simp only [Act.put, List.setIfInBounds_toArray, List.set_cons_zero, List.set_cons_succ, i64_w, i32_w]; rfl
           refine tu (i := 16) (N := some 232) (v := ?_) (a' := ?_) rfl rfl (by kernel_rfl) (fun _ _ _ h => h) (.inl ⟨by rfl, ?_⟩) hHeld ?_ ?_; rotate_left
           ·rintro w' ⟨s0, s1, s2, s3, s4, s5⟩; go_simp; with_reducible rfl
           rotate_left; · simp only [Act.put, List.setIfInBounds_toArray, List.set_cons_zero, List.set_cons_succ, i64_w, i32_w]; rfl
           refine pu (i := 18) (N := some 234) (v := ?_) (a' := ?_) rfl rfl (by kernel_rfl) (fun _ _ _ h => h) (.inl ⟨by rfl, ?_⟩) ?_ ?_; rotate_left
           ·intro w'; go_simp; with_reducible rfl
           rotate_left; · simp only [Act.put, List.setIfInBounds_toArray, List.set_cons_zero, List.set_cons_succ, i64_w, i32_w]; rfl
           refine pu (i := 19) (N := some 235) (v := ?_) (a' := ?_) rfl rfl (by kernel_rfl) (fun _ _ _ h => h) (.inl ⟨by rfl, ?_⟩) ?_ ?_; rotate_left
           ·intro w'; go_simp; with_reducible rfl
           rotate_left; · simp only [Act.put, List.setIfInBounds_toArray, List.set_cons_zero, List.set_cons_succ, i64_w, i32_w]; rfl
           refine tu (i := 20) (N := some 236) (v := ?_) (a' := ?_) rfl rfl (by kernel_rfl) (fun _ _ _ h => h) (.inl ⟨by rfl, ?_⟩) hHeld ?_ ?_; rotate_left
           ·rintro w' ⟨s0, s1, s2, s3, s4, s5⟩; go_simp; with_reducible rfl
           rotate_left; · simp only [Act.put, List.setIfInBounds_toArray, List.set_cons_zero, List.set_cons_succ, i64_w, i32_w]; rfl
           refine tu (i := 22) (N := some 238) (v := ?_) (a' := ?_) rfl rfl (by kernel_rfl) (fun _ _ _ h => h) (.inl ⟨by rfl, ?_⟩) hHeld ?_ ?_; rotate_left
           ·rintro w' ⟨s0, s1, s2, s3, s4, s5⟩; go_simp; with_reducible rfl
           rotate_left; · simp only [Act.put, List.setIfInBounds_toArray, List.set_cons_zero, List.set_cons_succ, i64_w, i32_w]; rfl
           refine pu (i := 24) (N := some 240) (v := ?_) (a' := ?_) rfl rfl (by kernel_rfl) (fun _ _ _ h => h) (.inl ⟨by rfl, ?_⟩) ?_ ?_; rotate_left
           ·intro w'; go_simp; with_reducible rfl
           rotate_left; · simp only [Act.put, List.setIfInBounds_toArray, List.set_cons_zero, List.set_cons_succ, i64_w, i32_w]; rfl
           refine pu (i := 25) (N := some 241) (v := ?_) (a' := ?_) rfl rfl (by kernel_rfl) (fun _ _ _ h => h) (.inl ⟨by rfl, ?_⟩) ?_ ?_; rotate_left
           ·intro w'; go_simp; with_reducible rfl
           rotate_left; · simp only [Act.put, List.setIfInBounds_toArray, List.set_cons_zero, List.set_cons_succ, i64_w, i32_w]; rfl
           refine tu (i := 26) (N := some 242) (v := ?_) (a' := ?_) rfl rfl (by kernel_rfl) (fun _ _ _ h => h) (.inl ⟨by rfl, ?_⟩) hHeld ?_ ?_; rotate_left
           ·rintro w' ⟨s0, s1, s2, s3, s4, s5⟩; go_simp; with_reducible rfl
           rotate_left; · simp only [Act.put, List.setIfInBounds_toArray, List.set_cons_zero, List.set_cons_succ, i64_w, i32_w]; rfl
           refine pu (i := 27) (N := some 243) (v := ?_) (a' := ?_) rfl rfl (by kernel_rfl) (fun _ _ _ h => h) (.inl ⟨by rfl, ?_⟩) ?_ ?_; rotate_left
           ·intro w'; go_simp; with_reducible rfl
           rotate_left; · simp only [Act.put, List.setIfInBounds_toArray, List.set_cons_zero, List.set_cons_succ, i64_w, i32_w]; rfl
           refine pu (i := 28) (N := some 244) (v := ?_) (a' := ?_) rfl rfl (by kernel_rfl) (fun _ _ _ h => h) (.inl ⟨by rfl, ?_⟩) ?_ ?_; rotate_left
           ·intro w'; go_simp; with_reducible rfl
           rotate_left; · simp only [Act.put, List.setIfInBounds_toArray, List.set_cons_zero, List.set_cons_succ, i64_w, i32_w]; rfl
           refine done_ (by kernel_rfl) ?_
           
           go_wp2
           go_roundg (m.datas.length - (i + 1))
           case measure => have := I0.out; have := HLT.out; omega
           case rel => exact ⟨i + 1, by have := HLT.out; omega, by go_num, blk_below' K1.out BX1.out, blk_below' K2.out BX1.out, BW.out.trans (BX1.out.mono BW.out.size)⟩
          ·have dl : decide (i < m.datas.length) = false := decide_eq_false hlt
           have dl2 : decide ((i : Int) < (m.datas.length : Int)) = false := decide_eq_false (by omega)
           have y : wr.cell? ⟨g1, 10, none⟩ = some (.slice A10 m.datas.length c10) := blk_cell K1.out 10
           clear hlt I0
           go_wp2
           go_ret
           exact ⟨rfl, BW.out⟩
end Go.Proofs.YtkdoijfjceeblaaDoor.EDec
