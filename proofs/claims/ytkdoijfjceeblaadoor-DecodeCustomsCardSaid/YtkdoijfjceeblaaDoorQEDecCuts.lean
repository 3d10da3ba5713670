/-
  What the claim leans on, cut to what is used (wip/tools/prune15.py): words, printed functions, walks.
-/
import Derived.Test.YtkdoijfjceeblaaDoorQF2
import Derived.Test.YtkdoijfjceeblaaDoorQEDecNZ
import Derived.Test.YtkdoijfjceeblaaDoorQEDecZ
namespace Go.Proofs.YtkdoijfjceeblaaDoor.EDec
open Go Go.RowKit Go.Proofs.YtkdoijfjceeblaaDoor.F Go.Proofs.YtkdoijfjceeblaaDoorW.Hand Go.Proofs.YtkdoijfjceeblaaDoorW.PrintWords Go.Proofs.YtkdoijfjceeblaaDoorW.PrintLast Go.Proofs.YtkdoijfjceeblaaDoorW.PrintMore
open Go.Proofs.YtkdoijfjceeblaaDoor.LebGets (G)
open Go.Proofs.YtkdoijfjceeblaaDoor.ENames (Tabs tabs_below nget nmay)
open Go.Proofs.YtkdoijfjceeblaaDoor.EInstr (GRes pGet get_b ret_int wrap_bt)
set_option linter.unusedVariables false
set_option linter.unusedSimpArgs false
theorem unleb_is (s : ByteArray) (a : Int) (hz : s.size ≤ 140737488355328) (W : World) : Calls Tryd.prog 18 #[.string s, .int .i64 a, .int .i64 32] W fun e w' => e = .returned (.tuple #[.int .i64 (G s a 32).1, .int .i64 (G s a 32).2.1, .int .i64 (G s a 32).2.2]) ∧ Below W.heap.size W w' := by
 obtain ⟨k, hk⟩ := LebGets.unleb_ev s a 32 hz
 exact (pelorusref12_Unleb.calls k s a 32 _ _ _ W (hk k (Nat.le_refl _))).mono fun e w' h => ⟨h.1, h.2.below⟩
theorem unleb_ok {s : ByteArray} {a x y : Int} (h : G s a 32 = (x, y, 0)) (hz : s.size ≤ 140737488355328) (W : World) : Calls Tryd.prog 18 #[.string s, .int .i64 a, .int .i64 32] W fun e w' => e = .returned (.tuple #[.int .i64 x, .int .i64 y, .int .i64 0]) ∧ Below W.heap.size W w' := by
 have := unleb_is s a hz W
 rwa [h] at this
theorem mod_ok_b {s : ByteArray} {m : Mod} (h : dMod s = .ok m) {W : World} (hT : Tabs W) : Calls Tryd.prog 13 #[.string s] W fun e w' => ∃ A0 c0 A1 c1 A2 c2 A3 c3 A4 c4 A5 c5 A6 c6 A8 c8 A9 c9 A10 c10, e = .returned (.tuple #[.agg #[.slice A0 m.types.length c0, .slice A1 m.imports.length c1, .slice A2 m.funcs.length c2, .slice A3 m.tables.length c3, .slice A4 m.mems.length c4, .slice A5 m.globals.length c5, .slice A6 m.exports.length c6, .int .i64 m.start, .slice A8 m.elems.length c8, .slice A9 m.codes.length c9, .slice A10 m.datas.length c10], .int .i64 0]) ∧ Below W.heap.size W w' := by
 refine (mod_ok_c h hT (Below.refl W.heap.size W)).mono ?_
 rintro e w' ⟨A0, c0, A1, c1, A2, c2, A3, c3, A4, c4, A5, c5, A6, c6, A8, c8, A9, c9, A10, c10, rfl, _, hb⟩
 exact ⟨A0, c0, A1, c1, A2, c2, A3, c3, A4, c4, A5, c5, A6, c6, A8, c8, A9, c9, A10, c10, rfl, hb⟩
end Go.Proofs.YtkdoijfjceeblaaDoor.EDec
