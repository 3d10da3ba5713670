/-
  What the claim leans on, cut to what is used (wip/tools/prune15.py): words, printed functions, walks.
-/
import Derived.Test.YtkdoijfjceeblaaDoorQEDecSame
namespace Go.Proofs.YtkdoijfjceeblaaDoor.EDec
open Go Go.RowKit Go.Proofs.YtkdoijfjceeblaaDoor.F Go.Proofs.YtkdoijfjceeblaaDoorW.Hand Go.Proofs.YtkdoijfjceeblaaDoorW.PrintWords Go.Proofs.YtkdoijfjceeblaaDoorW.PrintLast Go.Proofs.YtkdoijfjceeblaaDoorW.PrintMore
open Go.Proofs.YtkdoijfjceeblaaDoor.LebGets (G)
open Go.Proofs.YtkdoijfjceeblaaDoor.ENames (Tabs tabs_below nget nmay)
open Go.Proofs.YtkdoijfjceeblaaDoor.EInstr (GRes pGet get_b ret_int wrap_bt)
set_option linter.unusedVariables false
set_option linter.unusedSimpArgs false
structure MRd (W : World) (m : Mod) (A0 A1 A2 A3 A4 A5 A6 A8 A9 A10 : Option Addr) (c0 c1 c2 c3 c4 c5 c6 c8 c9 c10 : Nat) : Prop where
 C0 : k51.C W A0 m.types.length m.types
 l0 : m.types.length ≤ c0
 C1 : k92.C W A1 m.imports.length m.imports
 l1 : m.imports.length ≤ c1
 C2 : (Kd.int .i64).C W A2 m.funcs.length m.funcs
 l2 : m.funcs.length ≤ c2
 C3 : k54.C W A3 m.tables.length m.tables
 l3 : m.tables.length ≤ c3
 C4 : k54.C W A4 m.mems.length m.mems
 l4 : m.mems.length ≤ c4
 C5 : k72.C W A5 m.globals.length m.globals
 l5 : m.globals.length ≤ c5
 C6 : k75.C W A6 m.exports.length m.exports
 l6 : m.exports.length ≤ c6
 C8 : k77.C W A8 m.elems.length m.elems
 l8 : m.elems.length ≤ c8
 C9 : k57.C W A9 m.codes.length m.codes
 l9 : m.codes.length ≤ c9
 C10 : k80.C W A10 m.datas.length m.datas
 l10 : m.datas.length ≤ c10
theorem MRd.below {W W1 : World} {m : Mod} {A0 A1 A2 A3 A4 A5 A6 A8 A9 A10 : Option Addr} {c0 c1 c2 c3 c4 c5 c6 c8 c9 c10 : Nat} (h : MRd W m A0 A1 A2 A3 A4 A5 A6 A8 A9 A10 c0 c1 c2 c3 c4 c5 c6 c8 c9 c10) (hb : Below W.heap.size W W1) : MRd W1 m A0 A1 A2 A3 A4 A5 A6 A8 A9 A10 c0 c1 c2 c3 c4 c5 c6 c8 c9 c10 :=
 ⟨Kd.C_below h.C0 hb, h.l0, Kd.C_below h.C1 hb, h.l1, Kd.C_below h.C2 hb, h.l2, Kd.C_below h.C3 hb, h.l3, Kd.C_below h.C4 hb, h.l4, Kd.C_below h.C5 hb, h.l5, Kd.C_below h.C6 hb, h.l6, Kd.C_below h.C8 hb, h.l8, Kd.C_below h.C9 hb, h.l9, Kd.C_below h.C10 hb, h.l10⟩
theorem same_rd {W : World} {m : Mod} {A0 A1 A2 A3 A4 A5 A6 A8 A9 A10 B0 B1 B2 B3 B4 B5 B6 B8 B9 B10 : Option Addr} {c0 c1 c2 c3 c4 c5 c6 c8 c9 c10 d0 d1 d2 d3 d4 d5 d6 d8 d9 d10 : Nat} (h : MRd W m A0 A1 A2 A3 A4 A5 A6 A8 A9 A10 c0 c1 c2 c3 c4 c5 c6 c8 c9 c10) (k : MRd W m B0 B1 B2 B3 B4 B5 B6 B8 B9 B10 d0 d1 d2 d3 d4 d5 d6 d8 d9 d10) : Calls Tryd.prog 16 #[.agg #[.slice A0 m.types.length c0, .slice A1 m.imports.length c1, .slice A2 m.funcs.length c2, .slice A3 m.tables.length c3, .slice A4 m.mems.length c4, .slice A5 m.globals.length c5, .slice A6 m.exports.length c6, .int .i64 m.start, .slice A8 m.elems.length c8, .slice A9 m.codes.length c9, .slice A10 m.datas.length c10], .agg #[.slice B0 m.types.length d0, .slice B1 m.imports.length d1, .slice B2 m.funcs.length d2, .slice B3 m.tables.length d3, .slice B4 m.mems.length d4, .slice B5 m.globals.length d5, .slice B6 m.exports.length d6, .int .i64 m.start, .slice B8 m.elems.length d8, .slice B9 m.codes.length d9, .slice B10 m.datas.length d10]] W fun e w' => e = .returned (.bool true) ∧ Below W.heap.size W w' :=
 same_c h.C0 h.l0 k.C0 k.l0 h.C1 h.l1 k.C1 k.l1 h.C2 h.l2 k.C2 k.l2 h.C3 h.l3 k.C3 k.l3 h.C4 h.l4 k.C4 k.l4 h.C5 h.l5 k.C5 k.l5 h.C6 h.l6 k.C6 k.l6 h.C8 h.l8 k.C8 k.l8 h.C9 h.l9 k.C9 k.l9 h.C10 h.l10 k.C10 k.l10
theorem mod_ok_rd {s : ByteArray} {m : Mod} (h : dMod s = .ok m) {W : World} (hT : Tabs W) : Calls Tryd.prog 13 #[.string s] W fun e w' => ∃ A0 A1 A2 A3 A4 A5 A6 A8 A9 A10 c0 c1 c2 c3 c4 c5 c6 c8 c9 c10, e = .returned (.tuple #[.agg #[.slice A0 m.types.length c0, .slice A1 m.imports.length c1, .slice A2 m.funcs.length c2, .slice A3 m.tables.length c3, .slice A4 m.mems.length c4, .slice A5 m.globals.length c5, .slice A6 m.exports.length c6, .int .i64 m.start, .slice A8 m.elems.length c8, .slice A9 m.codes.length c9, .slice A10 m.datas.length c10], .int .i64 0]) ∧ MRd w' m A0 A1 A2 A3 A4 A5 A6 A8 A9 A10 c0 c1 c2 c3 c4 c5 c6 c8 c9 c10 ∧ Below W.heap.size W w' := by
 refine (mod_ok_c h hT (Below.refl W.heap.size W)).mono ?_
 rintro e w' ⟨A0, c0, A1, c1, A2, c2, A3, c3, A4, c4, A5, c5, A6, c6, A8, c8, A9, c9, A10, c10, rfl, ⟨u0, u1, u2, u3, u4, u5, u6, u8, u9, u10, hu, g0, g1, g2, g3, g4, g5, g6, g8, g9, g10⟩, hb⟩
 simp only [Value.agg.injEq, Array.mk.injEq, List.cons.injEq] at hu
 rw [← hu.1] at g0
 obtain ⟨-, q0, r0⟩ := Kd.R_reads' g0
 rw [← hu.2.1] at g1
 obtain ⟨-, q1, r1⟩ := Kd.R_reads' g1
 rw [← hu.2.2.1] at g2
 obtain ⟨-, q2, r2⟩ := Kd.R_reads' g2
 rw [← hu.2.2.2.1] at g3
 obtain ⟨-, q3, r3⟩ := Kd.R_reads' g3
 rw [← hu.2.2.2.2.1] at g4
 obtain ⟨-, q4, r4⟩ := Kd.R_reads' g4
 rw [← hu.2.2.2.2.2.1] at g5
 obtain ⟨-, q5, r5⟩ := Kd.R_reads' g5
 rw [← hu.2.2.2.2.2.2.1] at g6
 obtain ⟨-, q6, r6⟩ := Kd.R_reads' g6
 rw [← hu.2.2.2.2.2.2.2.2.1] at g8
 obtain ⟨-, q8, r8⟩ := Kd.R_reads' g8
 rw [← hu.2.2.2.2.2.2.2.2.2.1] at g9
 obtain ⟨-, q9, r9⟩ := Kd.R_reads' g9
 rw [← hu.2.2.2.2.2.2.2.2.2.2.1] at g10
 obtain ⟨-, q10, r10⟩ := Kd.R_reads' g10
 exact ⟨A0, A1, A2, A3, A4, A5, A6, A8, A9, A10, c0, c1, c2, c3, c4, c5, c6, c8, c9, c10, rfl, ⟨r0, q0, r1, q1, r2, q2, r3, q3, r4, q4, r5, q5, r6, q6, r8, q8, r9, q9, r10, q10⟩, hb⟩
end Go.Proofs.YtkdoijfjceeblaaDoor.EDec
