/-
  ftype.Global.
-/
import Derived.Test.YtmofdpkddimmlaaEFty2
import Derived.Test.YtmofdpkddimmlaaWIn
namespace Go.Proofs.Ytmofdpkddimmlaa.EFty
open Go Go.RowKit Go.Proofs.Ytmofdpkddimmlaa.F Go.Proofs.YtmofdpkddimmlaaW.Hand Go.Proofs.YtmofdpkddimmlaaW.PrintWords Go.Proofs.YtmofdpkddimmlaaW.PrintLast Go.Proofs.YtmofdpkddimmlaaW.PrintMore
attribute [local go_sem] Oper.semAt_some
set_option linter.unusedVariables false
set_option linter.unusedSimpArgs false
theorem cell_lt {W : World} {a : Addr} {v : Value} (h : W.cell? a = some v) : a.block < W.heap.size := by
  obtain ⟨o, ho, _⟩ := cells_of_cell h
  exact (Array.getElem?_eq_some_iff.1 ho).1
def NoneIs (imps : List S90) (K k : Int) (pre : List (Im imps K)) : Prop := ∀ y ∈ pre, (cnt imps K y.1 : Int) ≠ k
/-- What ftype.Global answers. -/
def globalOf (imps : List S90) (gs : List S93) (k : Int) : Int × Bool × Int :=
  if 0 ≤ k ∧ k < (cnt imps 3 imps.length : Int) then ((nth imps 3 k).f3, (nth imps 3 k).f4, 0) else if k < (cnt imps 3 imps.length : Int) ∨ k - (cnt imps 3 imps.length : Int) ≥ gs.length then (0, false, 1701)
  else ((rd_T93 gs (k - (cnt imps 3 imps.length : Int))).f0, (rd_T93 gs (k - (cnt imps 3 imps.length : Int))).f1, 0)
set_option maxRecDepth 100000 in
set_option maxHeartbeats 8000000 in
theorem global_calls (w : World) (imps : List S90) (gs : List S93) (k : Int) (A0 A A2 A3 A4 Ag A6 A8 A9 A10 : Option Addr) (n0 n2 n3 n4 n6 n8 n9 n10 c0 c c2 c3 c4 cg c6 c8 c9 c10 : Nat) (st : Int) (hlen : imps.length ≤ 140737488351232) (hgl : gs.length ≤ 140737488351232) (hk1 : k < 9223372036854775808) (hI : k90.C w A imps.length imps) (hG : k93.C w Ag gs.length gs) :
    Calls Try.prog 28 #[.agg #[.slice A0 n0 c0, .slice A imps.length c, .slice A2 n2 c2, .slice A3 n3 c3, .slice A4 n4 c4, .slice Ag gs.length cg, .slice A6 n6 c6, .int .i64 st, .slice A8 n8 c8, .slice A9 n9 c9, .slice A10 n10 c10], .int .i64 k] w fun e w' => e = .returned (.tuple #[.int .i64 (globalOf imps gs k).1, .bool (globalOf imps gs k).2.1, .int .i64 (globalOf imps gs k).2.2]) ∧ Below w.heap.size w w' := by
  refine (callsIn_wide (n := 3)).1 ?_
  refine callsIn_of_wp_marks Try.func28 rfl trivial ?_ rfl
  simp only [Try.ntmps28, List.size_toArray, List.length_cons, List.length_nil, Nat.reduceAdd, Nat.reduceSub, Array.replicate_succ, Array.replicate_zero, List.push_toArray, List.append_toArray, List.nil_append, List.cons_append]
  have HC := Aside0.mk hI
  have HG := Aside0.mk hG
  have HK1 := Aside0.mk hk1
  clear hI hG hk1
  gi_wp2_with (refine ⟨trivial, ?_⟩; gi_at_call 54; refine (imports_in Fence.wide 2 trivial rfl _ _ _).mono ?_; rintro e w' ⟨rfl, rfl⟩)
  have e_1 := cell_new_l (w.alloc (.cells #[.slice A0 n0 c0, .slice A imps.length c, .slice A2 n2 c2, .slice A3 n3 c3, .slice A4 n4 c4, .slice Ag gs.length cg, .slice A6 n6 c6, .int .i64 st, .slice A8 n8 c8, .slice A9 n9 c9, .slice A10 n10 c10] 69)) (.int .i64 k) 3
  have e_2 := cell_new_l ((w.alloc (.cells #[.slice A0 n0 c0, .slice A imps.length c, .slice A2 n2 c2, .slice A3 n3 c3, .slice A4 n4 c4, .slice Ag gs.length cg, .slice A6 n6 c6, .int .i64 st, .slice A8 n8 c8, .slice A9 n9 c9, .slice A10 n10 c10] 69)).alloc (.cells #[.int .i64 k] 3)) (.int .i64 0) 3
  have e_3 := cell_new_l (((w.alloc (.cells #[.slice A0 n0 c0, .slice A imps.length c, .slice A2 n2 c2, .slice A3 n3 c3, .slice A4 n4 c4, .slice Ag gs.length cg, .slice A6 n6 c6, .int .i64 st, .slice A8 n8 c8, .slice A9 n9 c9, .slice A10 n10 c10] 69)).alloc (.cells #[.int .i64 k] 3)).alloc (.cells #[.int .i64 0] 3)) (.bool false) 4
  have e_4 := cell_new_l ((((w.alloc (.cells #[.slice A0 n0 c0, .slice A imps.length c, .slice A2 n2 c2, .slice A3 n3 c3, .slice A4 n4 c4, .slice Ag gs.length cg, .slice A6 n6 c6, .int .i64 st, .slice A8 n8 c8, .slice A9 n9 c9, .slice A10 n10 c10] 69)).alloc (.cells #[.int .i64 k] 3)).alloc (.cells #[.int .i64 0] 3)).alloc (.cells #[.bool false] 4)) (.int .i64 0) 39
  have e_5 := cell_new_l (((((w.alloc (.cells #[.slice A0 n0 c0, .slice A imps.length c, .slice A2 n2 c2, .slice A3 n3 c3, .slice A4 n4 c4, .slice Ag gs.length cg, .slice A6 n6 c6, .int .i64 st, .slice A8 n8 c8, .slice A9 n9 c9, .slice A10 n10 c10] 69)).alloc (.cells #[.int .i64 k] 3)).alloc (.cells #[.int .i64 0] 3)).alloc (.cells #[.bool false] 4)).alloc (.cells #[.int .i64 0] 39)) (.int .i64 0) 3
  have e_6 := cell_new_l ((((((w.alloc (.cells #[.slice A0 n0 c0, .slice A imps.length c, .slice A2 n2 c2, .slice A3 n3 c3, .slice A4 n4 c4, .slice Ag gs.length cg, .slice A6 n6 c6, .int .i64 st, .slice A8 n8 c8, .slice A9 n9 c9, .slice A10 n10 c10] 69)).alloc (.cells #[.int .i64 k] 3)).alloc (.cells #[.int .i64 0] 3)).alloc (.cells #[.bool false] 4)).alloc (.cells #[.int .i64 0] 39)).alloc (.cells #[.int .i64 0] 3)) (.pointer (some ⟨w.heap.size, 0, none⟩)) 119
  have e_7 := cell_new_l (((((((w.alloc (.cells #[.slice A0 n0 c0, .slice A imps.length c, .slice A2 n2 c2, .slice A3 n3 c3, .slice A4 n4 c4, .slice Ag gs.length cg, .slice A6 n6 c6, .int .i64 st, .slice A8 n8 c8, .slice A9 n9 c9, .slice A10 n10 c10] 69)).alloc (.cells #[.int .i64 k] 3)).alloc (.cells #[.int .i64 0] 3)).alloc (.cells #[.bool false] 4)).alloc (.cells #[.int .i64 0] 39)).alloc (.cells #[.int .i64 0] 3)).alloc (.cells #[.pointer (some ⟨w.heap.size, 0, none⟩)] 119)) (.int .i64 3) 3
  simp only [World.size_alloc] at e_1 e_2 e_3 e_4 e_5 e_6 e_7
  have k1 := (cell_alloc_l (.cells #[.int .i64 3] 3) (cell_alloc_l (.cells #[.pointer (some ⟨w.heap.size, 0, none⟩)] 119) (cell_alloc_l (.cells #[.int .i64 0] 3) (cell_alloc_l (.cells #[.int .i64 0] 39) (cell_alloc_l (.cells #[.bool false] 4) (cell_alloc_l (.cells #[.int .i64 0] 3) e_1.1))))))
  have q1 := (frozen_alloc_l (.cells #[.int .i64 3] 3) (cell_alloc_l (.cells #[.pointer (some ⟨w.heap.size, 0, none⟩)] 119) (cell_alloc_l (.cells #[.int .i64 0] 3) (cell_alloc_l (.cells #[.int .i64 0] 39) (cell_alloc_l (.cells #[.bool false] 4) (cell_alloc_l (.cells #[.int .i64 0] 3) e_1.1))))) (frozen_alloc_l (.cells #[.pointer (some ⟨w.heap.size, 0, none⟩)] 119) (cell_alloc_l (.cells #[.int .i64 0] 3) (cell_alloc_l (.cells #[.int .i64 0] 39) (cell_alloc_l (.cells #[.bool false] 4) (cell_alloc_l (.cells #[.int .i64 0] 3) e_1.1)))) (frozen_alloc_l (.cells #[.int .i64 0] 3) (cell_alloc_l (.cells #[.int .i64 0] 39) (cell_alloc_l (.cells #[.bool false] 4) (cell_alloc_l (.cells #[.int .i64 0] 3) e_1.1))) (frozen_alloc_l (.cells #[.int .i64 0] 39) (cell_alloc_l (.cells #[.bool false] 4) (cell_alloc_l (.cells #[.int .i64 0] 3) e_1.1)) (frozen_alloc_l (.cells #[.bool false] 4) (cell_alloc_l (.cells #[.int .i64 0] 3) e_1.1) (frozen_alloc_l (.cells #[.int .i64 0] 3) e_1.1 e_1.2))))))
  have k2 := (cell_alloc_l (.cells #[.int .i64 3] 3) (cell_alloc_l (.cells #[.pointer (some ⟨w.heap.size, 0, none⟩)] 119) (cell_alloc_l (.cells #[.int .i64 0] 3) (cell_alloc_l (.cells #[.int .i64 0] 39) (cell_alloc_l (.cells #[.bool false] 4) e_2.1)))))
  have q2 := (frozen_alloc_l (.cells #[.int .i64 3] 3) (cell_alloc_l (.cells #[.pointer (some ⟨w.heap.size, 0, none⟩)] 119) (cell_alloc_l (.cells #[.int .i64 0] 3) (cell_alloc_l (.cells #[.int .i64 0] 39) (cell_alloc_l (.cells #[.bool false] 4) e_2.1)))) (frozen_alloc_l (.cells #[.pointer (some ⟨w.heap.size, 0, none⟩)] 119) (cell_alloc_l (.cells #[.int .i64 0] 3) (cell_alloc_l (.cells #[.int .i64 0] 39) (cell_alloc_l (.cells #[.bool false] 4) e_2.1))) (frozen_alloc_l (.cells #[.int .i64 0] 3) (cell_alloc_l (.cells #[.int .i64 0] 39) (cell_alloc_l (.cells #[.bool false] 4) e_2.1)) (frozen_alloc_l (.cells #[.int .i64 0] 39) (cell_alloc_l (.cells #[.bool false] 4) e_2.1) (frozen_alloc_l (.cells #[.bool false] 4) e_2.1 e_2.2)))))
  have k3 := (cell_alloc_l (.cells #[.int .i64 3] 3) (cell_alloc_l (.cells #[.pointer (some ⟨w.heap.size, 0, none⟩)] 119) (cell_alloc_l (.cells #[.int .i64 0] 3) (cell_alloc_l (.cells #[.int .i64 0] 39) e_3.1))))
  have q3 := (frozen_alloc_l (.cells #[.int .i64 3] 3) (cell_alloc_l (.cells #[.pointer (some ⟨w.heap.size, 0, none⟩)] 119) (cell_alloc_l (.cells #[.int .i64 0] 3) (cell_alloc_l (.cells #[.int .i64 0] 39) e_3.1))) (frozen_alloc_l (.cells #[.pointer (some ⟨w.heap.size, 0, none⟩)] 119) (cell_alloc_l (.cells #[.int .i64 0] 3) (cell_alloc_l (.cells #[.int .i64 0] 39) e_3.1)) (frozen_alloc_l (.cells #[.int .i64 0] 3) (cell_alloc_l (.cells #[.int .i64 0] 39) e_3.1) (frozen_alloc_l (.cells #[.int .i64 0] 39) e_3.1 e_3.2))))
  have k4 := (cell_alloc_l (.cells #[.int .i64 3] 3) (cell_alloc_l (.cells #[.pointer (some ⟨w.heap.size, 0, none⟩)] 119) (cell_alloc_l (.cells #[.int .i64 0] 3) e_4.1)))
  have q4 := (frozen_alloc_l (.cells #[.int .i64 3] 3) (cell_alloc_l (.cells #[.pointer (some ⟨w.heap.size, 0, none⟩)] 119) (cell_alloc_l (.cells #[.int .i64 0] 3) e_4.1)) (frozen_alloc_l (.cells #[.pointer (some ⟨w.heap.size, 0, none⟩)] 119) (cell_alloc_l (.cells #[.int .i64 0] 3) e_4.1) (frozen_alloc_l (.cells #[.int .i64 0] 3) e_4.1 e_4.2)))
  have k5 := (cell_alloc_l (.cells #[.int .i64 3] 3) (cell_alloc_l (.cells #[.pointer (some ⟨w.heap.size, 0, none⟩)] 119) e_5.1))
  have q5 := (frozen_alloc_l (.cells #[.int .i64 3] 3) (cell_alloc_l (.cells #[.pointer (some ⟨w.heap.size, 0, none⟩)] 119) e_5.1) (frozen_alloc_l (.cells #[.pointer (some ⟨w.heap.size, 0, none⟩)] 119) e_5.1 e_5.2))
  have k6 := (cell_alloc_l (.cells #[.int .i64 3] 3) e_6.1)
  have q6 := (frozen_alloc_l (.cells #[.int .i64 3] 3) e_6.1 e_6.2)
  have k7 := e_7.1
  have q7 := e_7.2
  have hB0 : Below (w.alloc (.cells #[.slice A0 n0 c0, .slice A imps.length c, .slice A2 n2 c2, .slice A3 n3 c3, .slice A4 n4 c4, .slice Ag gs.length cg, .slice A6 n6 c6, .int .i64 st, .slice A8 n8 c8, .slice A9 n9 c9, .slice A10 n10 c10] 69)).heap.size (w.alloc (.cells #[.slice A0 n0 c0, .slice A imps.length c, .slice A2 n2 c2, .slice A3 n3 c3, .slice A4 n4 c4, .slice Ag gs.length cg, .slice A6 n6 c6, .int .i64 st, .slice A8 n8 c8, .slice A9 n9 c9, .slice A10 n10 c10] 69)) ((((((((w.alloc (.cells #[.slice A0 n0 c0, .slice A imps.length c, .slice A2 n2 c2, .slice A3 n3 c3, .slice A4 n4 c4, .slice Ag gs.length cg, .slice A6 n6 c6, .int .i64 st, .slice A8 n8 c8, .slice A9 n9 c9, .slice A10 n10 c10] 69)).alloc (.cells #[.int .i64 k] 3)).alloc (.cells #[.int .i64 0] 3)).alloc (.cells #[.bool false] 4)).alloc (.cells #[.int .i64 0] 39)).alloc (.cells #[.int .i64 0] 3)).alloc (.cells #[.pointer (some ⟨w.heap.size, 0, none⟩)] 119)).alloc (.cells #[.int .i64 3] 3)) := ((((((((Below.refl _ (w.alloc (.cells #[.slice A0 n0 c0, .slice A imps.length c, .slice A2 n2 c2, .slice A3 n3 c3, .slice A4 n4 c4, .slice Ag gs.length cg, .slice A6 n6 c6, .int .i64 st, .slice A8 n8 c8, .slice A9 n9 c9, .slice A10 n10 c10] 69))).alloc (by simp <;> omega) _).alloc (by simp <;> omega) _).alloc (by simp <;> omega) _).alloc (by simp <;> omega) _).alloc (by simp <;> omega) _).alloc (by simp <;> omega) _).alloc (by simp <;> omega) _)
  have hszM : (w.alloc (.cells #[.slice A0 n0 c0, .slice A imps.length c, .slice A2 n2 c2, .slice A3 n3 c3, .slice A4 n4 c4, .slice Ag gs.length cg, .slice A6 n6 c6, .int .i64 st, .slice A8 n8 c8, .slice A9 n9 c9, .slice A10 n10 c10] 69)).heap.size = w.heap.size + 1 := by simp [World.size_alloc]
  have hsz : ((((((((w.alloc (.cells #[.slice A0 n0 c0, .slice A imps.length c, .slice A2 n2 c2, .slice A3 n3 c3, .slice A4 n4 c4, .slice Ag gs.length cg, .slice A6 n6 c6, .int .i64 st, .slice A8 n8 c8, .slice A9 n9 c9, .slice A10 n10 c10] 69)).alloc (.cells #[.int .i64 k] 3)).alloc (.cells #[.int .i64 0] 3)).alloc (.cells #[.bool false] 4)).alloc (.cells #[.int .i64 0] 39)).alloc (.cells #[.int .i64 0] 3)).alloc (.cells #[.pointer (some ⟨w.heap.size, 0, none⟩)] 119)).alloc (.cells #[.int .i64 3] 3)).heap.size = w.heap.size + 8 := by simp [World.size_alloc]
  clear e_1 e_2 e_3 e_4 e_5 e_6 e_7
  have hCM : k90.C (w.alloc (.cells #[.slice A0 n0 c0, .slice A imps.length c, .slice A2 n2 c2, .slice A3 n3 c3, .slice A4 n4 c4, .slice Ag gs.length cg, .slice A6 n6 c6, .int .i64 st, .slice A8 n8 c8, .slice A9 n9 c9, .slice A10 n10 c10] 69)) A imps.length imps := Kd.C_below HC.out ((Below.refl _ w).alloc (Nat.le_refl _) _)
  refine wpIn_rangeFunc_ownF rfl (by omega) (gf := 72) (lb := #[.pointer (some ⟨w.heap.size + 1 + 1 + 1 + 1 + 1 + 1, 0, none⟩), .pointer (some ⟨w.heap.size + 1 + 1 + 1 + 1 + 1 + 1 + 1, 0, none⟩)]) rfl trivial (enters_of Try.func72 (by kernel_rfl) rfl)
    (imports_stops Fence.wide 2 trivial rfl (by omega) (w.alloc (.cells #[.slice A0 n0 c0, .slice A imps.length c, .slice A2 n2 c2, .slice A3 n3 c3, .slice A4 n4 c4, .slice Ag gs.length cg, .slice A6 n6 c6, .int .i64 st, .slice A8 n8 c8, .slice A9 n9 c9, .slice A10 n10 c10] 69)) _ (w.heap.size + 1 + 1 + 1 + 1 + 1 + 1) (w.heap.size + 1 + 1 + 1 + 1 + 1 + 1 + 1) w.heap.size imps 3 A c hlen hB0 (by rw [hszM]; omega) (blk_cell (blk_new w _) 1) hCM (by rw [hsz]; omega) (by rw [hsz]; omega) k6 k7) (fun h k => kpI_t h k) (kpI_b (by rw [hsz, hszM]; omega) (by rw [hsz]; omega) (by rw [hsz]; omega)) (Below.refl _ _) (fun _ => rfl)
    (fun pre W => (NoneIs imps 3 k pre ∧ W.cell? ⟨w.heap.size + 1, 0, none⟩ = some (.int .i64 k) ∧ W.cell? ⟨w.heap.size + 1 + 1, 0, none⟩ = some (.int .i64 0) ∧ W.frozen? ⟨w.heap.size + 1 + 1, 0, none⟩ = false ∧ W.cell? ⟨w.heap.size + 1 + 1 + 1, 0, none⟩ = some (.bool false) ∧ W.frozen? ⟨w.heap.size + 1 + 1 + 1, 0, none⟩ = false ∧ W.cell? ⟨w.heap.size + 1 + 1 + 1 + 1, 0, none⟩ = some (.int .i64 0) ∧ W.frozen? ⟨w.heap.size + 1 + 1 + 1 + 1, 0, none⟩ = false ∧ W.cell? ⟨w.heap.size + 1 + 1 + 1 + 1 + 1, 0, none⟩ = some (.int .i64 (nval pre)) ∧ W.frozen? ⟨w.heap.size + 1 + 1 + 1 + 1 + 1, 0, none⟩ = false) ∧ Below (w.heap.size + 1) (w.alloc (.cells #[.slice A0 n0 c0, .slice A imps.length c, .slice A2 n2 c2, .slice A3 n3 c3, .slice A4 n4 c4, .slice Ag gs.length cg, .slice A6 n6 c6, .int .i64 st, .slice A8 n8 c8, .slice A9 n9 c9, .slice A10 n10 c10] 69)) W)
    (fun cd pre W => (cd = .ret ∧ (∃ pre0 x, pre = pre0 ++ [x] ∧ (cnt imps 3 x.1 : Int) = k ∧ W.cell? ⟨w.heap.size + 1 + 1, 0, none⟩ = some (.int .i64 (rd_T90 imps (x.1 : Int)).f3) ∧ W.cell? ⟨w.heap.size + 1 + 1 + 1, 0, none⟩ = some (.bool (rd_T90 imps (x.1 : Int)).f4) ∧ W.cell? ⟨w.heap.size + 1 + 1 + 1 + 1, 0, none⟩ = some (.int .i64 0))) ∧ Below (w.heap.size + 1) (w.alloc (.cells #[.slice A0 n0 c0, .slice A imps.length c, .slice A2 n2 c2, .slice A3 n3 c3, .slice A4 n4 c4, .slice Ag gs.length cg, .slice A6 n6 c6, .int .i64 st, .slice A8 n8 c8, .slice A9 n9 c9, .slice A10 n10 c10] 69)) W)
    (OwnFrom.and (Own.from (fun s A B row hs hg hr => ⟨hs.1, cell_kept hs.2.1 hg hr, cell_kept hs.2.2.1 hg hr, (frozen_kept hs.2.2.1 hg hr).trans hs.2.2.2.1, cell_kept hs.2.2.2.2.1 hg hr, (frozen_kept hs.2.2.2.2.1 hg hr).trans hs.2.2.2.2.2.1, cell_kept hs.2.2.2.2.2.2.1 hg hr, (frozen_kept hs.2.2.2.2.2.2.1 hg hr).trans hs.2.2.2.2.2.2.2.1, cell_kept hs.2.2.2.2.2.2.2.2.1 hg hr, (frozen_kept hs.2.2.2.2.2.2.2.2.1 hg hr).trans hs.2.2.2.2.2.2.2.2.2⟩) _) (ownFrom_below (Nat.le_of_eq hszM.symm) (by rw [hsz]; omega)))
    (fun cd => OwnFrom.and (Own.from (fun s A B row hs hg hr => ⟨hs.1, by obtain ⟨p0, x, e1, e2, e3, e4, e5⟩ := hs.2; exact ⟨p0, x, e1, e2, cell_kept e3 hg hr, cell_kept e4 hg hr, cell_kept e5 hg hr⟩⟩) _) (ownFrom_below (Nat.le_of_eq hszM.symm) (by rw [hsz]; omega)))
    ⟨⟨fun y hy => (by cases hy), k1, k2, q2, k3, q3, k4, q4, k5, q5⟩, by rw [hszM] at hB0; exact hB0⟩
    (fun x => { tmps := #[.agg #[.slice A0 n0 c0, .slice A imps.length c, .slice A2 n2 c2, .slice A3 n3 c3, .slice A4 n4 c4, .slice Ag gs.length cg, .slice A6 n6 c6, .int .i64 st, .slice A8 n8 c8, .slice A9 n9 c9, .slice A10 n10 c10], .int .i64 k, .pointer (some ⟨w.heap.size, 0, none⟩), .pointer (some ⟨w.heap.size + 1, 0, none⟩), .pointer (some ⟨w.heap.size + 1 + 1, 0, none⟩), .pointer (some ⟨w.heap.size + 1 + 1 + 1, 0, none⟩), .pointer (some ⟨w.heap.size + 1 + 1 + 1 + 1, 0, none⟩), .pointer (some ⟨w.heap.size + 1 + 1 + 1 + 1 + 1, 0, none⟩), .int .i64 (cnt imps 3 x.1 : Int), .pointer (some ((A.getD ⟨0, 0, none⟩).add (x.1 * 7))), .func (.func 72) #[] #[.pointer (some ⟨w.heap.size + 1 + 1 + 1 + 1 + 1 + 1, 0, none⟩), .pointer (some ⟨w.heap.size + 1 + 1 + 1 + 1 + 1 + 1 + 1, 0, none⟩)], .int .i64 (cnt imps 3 x.1 : Int), .pointer (some ((A.getD ⟨0, 0, none⟩).add (x.1 * 7))), undef, undef, undef, undef, undef, undef, undef, undef, undef, undef, undef, undef, undef, undef, undef, undef, undef, undef, undef, undef, undef, undef, undef, undef, undef, undef, undef, undef, undef, undef, undef, undef, undef, undef, undef, undef, undef, undef, undef, undef, undef], defers := [] }) ?assign ?body ?done ?stop
  case assign =>
    intro l x W Kc hKc
    simp only [encI]
    gi_wp2
    simpa [encI] using hKc
  case body =>
    rintro l pre x W ⟨⟨hne, hck, hcr, hfr, hcr2, hfr2, hcr3, hfr3, hcn, hfn⟩, hB⟩ hpl
    obtain ⟨xv, xlt, xk⟩ := x
    have hBw := below_step (show Below w.heap.size w (w.alloc (.cells #[.slice A0 n0 c0, .slice A imps.length c, .slice A2 n2 c2, .slice A3 n3 c3, .slice A4 n4 c4, .slice Ag gs.length cg, .slice A6 n6 c6, .int .i64 st, .slice A8 n8 c8, .slice A9 n9 c9, .slice A10 n10 c10] 69)) from (Below.refl _ w).alloc (Nat.le_refl _) _) (show Below (w.alloc (.cells #[.slice A0 n0 c0, .slice A imps.length c, .slice A2 n2 c2, .slice A3 n3 c3, .slice A4 n4 c4, .slice Ag gs.length cg, .slice A6 n6 c6, .int .i64 st, .slice A8 n8 c8, .slice A9 n9 c9, .slice A10 n10 c10] 69)).heap.size _ W by rw [hszM]; exact hB)
    obtain ⟨ad, e, _, _, _, z3, z4, _⟩ := at_T90 HC.out (xv : Int) (by omega) (by omega)
    subst e
    simp only [Int.toNat_natCast] at z3 z4
    have hb1 : (⟨(ad.add (xv * 7)).block, (ad.add (xv * 7)).off + 3, none⟩ : Addr).block ≠ (⟨w.heap.size + 1 + 1, 0, none⟩ : Addr).block := by
      have := cell_lt z3
      simp only at this ⊢
      omega
    have hb2 : (⟨(ad.add (xv * 7)).block, (ad.add (xv * 7)).off + 4, none⟩ : Addr).block ≠ (⟨w.heap.size + 1 + 1, 0, none⟩ : Addr).block := hb1
    have zt : W.cell? ⟨(ad.add (xv * 7)).block, (ad.add (xv * 7)).off + 3, none⟩ = some (.int .i64 (rd_T90 imps (xv : Int)).f3) := by
      have := pw_cell_below hBw z3
      simpa using this
    have zu : W.cell? ⟨(ad.add (xv * 7)).block, (ad.add (xv * 7)).off + 4, none⟩ = some (.bool (rd_T90 imps (xv : Int)).f4) := by
      have := pw_cell_below hBw z4
      simpa using this
    have bc := cnt_le imps 3 xv
    have b1 : cnt imps 3 xv ≤ 140737488351232 := by omega
    have NE := Aside0.mk hne
    have HSM := Aside0.mk hszM
    clear hlen hpl hsz hB0 k1 k2 k3 k4 k5 k6 k7 q1 q2 q3 q4 q5 q6 q7 z3 z4 hne bc hszM hCM
    by_cases hx : (cnt imps 3 xv : Int) = k
    · have dx : ((cnt imps 3 xv : Int) == k) = true := beq_iff_eq.mpr hx
      gi_wp2
      refine startIn_ (by rintro ⟨_, _, h⟩; exact h) (by kernel_rfl) (n := 11) (S := fun w' => w'.cell? ⟨(ad.add (xv * 7)).block, (ad.add (xv * 7)).off + 3, none⟩ = some (.int .i64 (rd_T90 imps (xv : Int)).f3) ∧ w'.cell? ⟨(ad.add (xv * 7)).block, (ad.add (xv * 7)).off + 4, none⟩ = some (.bool (rd_T90 imps (xv : Int)).f4)) (ds := [9, 10]) #[false, false, false, false, false, false, false, false, false, false, false] (by kernel_rfl) rfl rfl ⟨zt, zu⟩ (fun hHeld => ?_)
      refine pure_ (i := 0) (N := some 16) (v := ?_) (a' := ?_) #[true, false, false, false, false, false, false, false, false, false, false] rfl rfl (by kernel_rfl) (fun _ _ _ h => h) (Or.inl ⟨by rfl, ?_⟩) ?_ ?_
      rotate_left
      · intro w'
        go_simp
        with_reducible rfl
      rotate_left
      · simp only [Act.put, List.setIfInBounds_toArray, List.set_cons_zero, List.set_cons_succ, i64_w, i32_w]
        rfl
      refine pure_ (i := 1) (N := some 17) (v := ?_) (a' := ?_) #[true, true, false, false, false, false, false, false, false, false, false] rfl rfl (by kernel_rfl) (fun _ _ _ h => h) (Or.inl ⟨by rfl, ?_⟩) ?_ ?_
      rotate_left
      · intro w'
        go_simp
        with_reducible rfl
      rotate_left
      · simp only [Act.put, List.setIfInBounds_toArray, List.set_cons_zero, List.set_cons_succ, i64_w, i32_w]
        rfl
      refine pure_ (i := 2) (N := some 18) (v := ?_) (a' := ?_) #[true, true, true, false, false, false, false, false, false, false, false] rfl rfl (by kernel_rfl) (fun _ _ _ h => h) (Or.inl ⟨by rfl, ?_⟩) ?_ ?_
      rotate_left
      · intro w'
        go_simp
        with_reducible rfl
      rotate_left
      · simp only [Act.put, List.setIfInBounds_toArray, List.set_cons_zero, List.set_cons_succ, i64_w, i32_w]
        rfl
      refine pure_ (i := 4) (N := some 20) (v := ?_) (a' := ?_) #[true, true, true, false, true, false, false, false, false, false, false] rfl rfl (by kernel_rfl) (fun _ _ _ h => h) (Or.inl ⟨by rfl, ?_⟩) ?_ ?_
      rotate_left
      · intro w'
        go_simp
        with_reducible rfl
      rotate_left
      · simp only [Act.put, List.setIfInBounds_toArray, List.set_cons_zero, List.set_cons_succ, i64_w, i32_w]
        rfl
      refine pure_ (i := 5) (N := some 21) (v := ?_) (a' := ?_) #[true, true, true, false, true, true, false, false, false, false, false] rfl rfl (by kernel_rfl) (fun _ _ _ h => h) (Or.inl ⟨by rfl, ?_⟩) ?_ ?_
      rotate_left
      · intro w'
        go_simp
        with_reducible rfl
      rotate_left
      · simp only [Act.put, List.setIfInBounds_toArray, List.set_cons_zero, List.set_cons_succ, i64_w, i32_w]
        rfl
      refine pure_ (i := 6) (N := some 22) (v := ?_) (a' := ?_) #[true, true, true, false, true, true, true, false, false, false, false] rfl rfl (by kernel_rfl) (fun _ _ _ h => h) (Or.inl ⟨by rfl, ?_⟩) ?_ ?_
      rotate_left
      · intro w'
        go_simp
        with_reducible rfl
      rotate_left
      · simp only [Act.put, List.setIfInBounds_toArray, List.set_cons_zero, List.set_cons_succ, i64_w, i32_w]
        rfl
      refine take_ (i := 3) (N := some 19) (v := ?_) (a' := ?_) #[true, true, true, true, true, true, true, false, false, false, false] rfl rfl (by kernel_rfl) (fun _ _ _ h => h) (Or.inl ⟨by rfl, ?_⟩) hHeld ?_ ?_
      rotate_left
      · rintro w' ⟨s0, s1⟩
        go_simp
        with_reducible rfl
      rotate_left
      · simp only [Act.put, List.setIfInBounds_toArray, List.set_cons_zero, List.set_cons_succ, i64_w, i32_w]
        rfl
      refine take_ (i := 7) (N := some 23) (v := ?_) (a' := ?_) #[true, true, true, true, true, true, true, true, false, false, false] rfl rfl (by kernel_rfl) (fun _ _ _ h => h) (Or.inl ⟨by rfl, ?_⟩) hHeld ?_ ?_
      rotate_left
      · rintro w' ⟨s0, s1⟩
        go_simp
        with_reducible rfl
      rotate_left
      · simp only [Act.put, List.setIfInBounds_toArray, List.set_cons_zero, List.set_cons_succ, i64_w, i32_w]
        rfl
      refine one_ (i := 8) (N := none) #[true, true, true, true, true, true, true, true, true, false, false] rfl rfl (by kernel_rfl) (by decide) (fun K hK => ?_)
      refine skip_ (w1 := ?_) (by rfl) rfl ?_ ?_
      rotate_left
      · go_simp
        rfl
      refine hK.out _ _ ⟨cell_set_far zt hb1, cell_set_far zu hb2⟩ (fun hHeld => ?_)
      clear hK K
      refine last_ (i := 9) (N := none) #[true, true, true, true, true, true, true, true, true, true, false] rfl rfl (by kernel_rfl) (by decide) (fun K hK => ?_)
      refine skip_ (w1 := ?_) (by rfl) rfl ?_ ?_
      rotate_left
      · go_simp
        rfl
      refine hK.out _ _ ?_
      clear hK K
      refine last_ (i := 10) (N := none) #[true, true, true, true, true, true, true, true, true, true, true] rfl rfl (by kernel_rfl) (by decide) (fun K hK => ?_)
      refine skip_ (w1 := ?_) (by rfl) rfl ?_ ?_
      rotate_left
      · go_simp
        rfl
      refine hK.out _ _ ?_
      clear hK K
      refine done_ (by kernel_rfl) ?_
      gi_wp2
      have s1 := World.cell?_setCell_same' W ⟨w.heap.size + 1 + 1, 0, none⟩ (.int .i64 (rd_T90 imps (xv : Int)).f3) (by rw [hcr]; rfl)
      have s2 := World.cell?_setCell_same' (W.setCell ⟨w.heap.size + 1 + 1, 0, none⟩ (.int .i64 (rd_T90 imps (xv : Int)).f3)) ⟨w.heap.size + 1 + 1 + 1, 0, none⟩ (.bool (rd_T90 imps (xv : Int)).f4) (by rw [cell_set_far hcr2 (by simp)]; rfl)
      have s3 := World.cell?_setCell_same' ((W.setCell ⟨w.heap.size + 1 + 1, 0, none⟩ (.int .i64 (rd_T90 imps (xv : Int)).f3)).setCell ⟨w.heap.size + 1 + 1 + 1, 0, none⟩ (.bool (rd_T90 imps (xv : Int)).f4)) ⟨w.heap.size + 1 + 1 + 1 + 1, 0, none⟩ (.int .i64 0) (by rw [cell_set_far (cell_set_far hcr3 (by simp <;> omega)) (by simp)]; rfl)
      exact ⟨(((KeepsOthers.setCell W _ _).trans (KeepsOthers.setCell _ _ _)).trans (KeepsOthers.setCell _ _ _)).trans (KeepsOthers.drew _), ⟨rfl, pre, ⟨xv, xlt, xk⟩, rfl, hx, cell_set_far (cell_set_far s1 (by simp)) (by simp <;> omega), cell_set_far s2 (by simp), s3⟩,
        (((hB.setCell (p := ⟨w.heap.size + 1 + 1, 0, none⟩) (by simp <;> omega) _).setCell (p := ⟨w.heap.size + 1 + 1 + 1, 0, none⟩) (by simp <;> omega) _).setCell (p := ⟨w.heap.size + 1 + 1 + 1 + 1, 0, none⟩) (by simp <;> omega) _).drew⟩
    · have dx : ((cnt imps 3 xv : Int) == k) = false := beq_eq_false_iff_ne.mpr hx
      gi_wp2
      exact ⟨KeepsOthers.setCell _ _ _, ⟨(Below.refl (w.heap.size + 1) W).setCell (p := ⟨w.heap.size + 1 + 1 + 1 + 1 + 1, 0, none⟩) (by simp <;> omega) _, Below.heap_setCell W ⟨w.heap.size + 1 + 1 + 1 + 1 + 1, 0, none⟩ _ _ (by simp), Below.heap_setCell W ⟨w.heap.size + 1 + 1 + 1 + 1 + 1, 0, none⟩ _ _ (by simp <;> omega)⟩,
        ⟨fun y hy => (List.mem_append.1 hy).elim (NE.out y) (fun h => by
          obtain rfl : y = ⟨xv, xlt, xk⟩ := by simpa using h
          exact hx), cell_set_far hck (by simp <;> omega), cell_set_far hcr (by simp <;> omega), by rw [World.frozen?_setCell]; exact hfr, cell_set_far hcr2 (by simp <;> omega), by rw [World.frozen?_setCell]; exact hfr2, cell_set_far hcr3 (by simp <;> omega), by rw [World.frozen?_setCell]; exact hfr3, by rw [World.cell?_setCell_same' _ _ _ (by rw [hcn]; rfl), nval_snoc], by rw [World.frozen?_setCell]; exact hfn⟩, hB.setCell (p := ⟨w.heap.size + 1 + 1 + 1 + 1 + 1, 0, none⟩) (by simp <;> omega) _⟩
  case done =>
    rintro D ys W hD rfl ⟨⟨hne, hck, hcr, hfr, hcr2, hfr2, hcr3, hfr3, hcn, hfn⟩, hB⟩ hK
    have hnone := none_at hne
    rw [nval_upTo] at hcn
    have bN := cnt_le imps 3 imps.length
    obtain ⟨N, hN⟩ : ∃ N, cnt imps 3 imps.length = N := ⟨_, rfl⟩
    rw [hN] at hnone hcn bN
    have zf : W.cell? ⟨w.heap.size, 5, none⟩ = some (.slice Ag gs.length cg) := by
      have hB1 := hB
      rw [← hszM] at hB1
      exact pw_cell_below hB1 (blk_cell (blk_new w _) 5)
    rw [hsz] at hD
    have hwM : Below w.heap.size w (w.alloc (.cells #[.slice A0 n0 c0, .slice A imps.length c, .slice A2 n2 c2, .slice A3 n3 c3, .slice A4 n4 c4, .slice Ag gs.length cg, .slice A6 n6 c6, .int .i64 st, .slice A8 n8 c8, .slice A9 n9 c9, .slice A10 n10 c10] 69)) := (Below.refl _ w).alloc (Nat.le_refl _) _
    have fin : ∀ (W1 : World) (r : Int × Bool × Int), W1.heap[D]? = some (.deferred (some [])) → Below (w.heap.size + 1) (w.alloc (.cells #[.slice A0 n0 c0, .slice A imps.length c, .slice A2 n2 c2, .slice A3 n3 c3, .slice A4 n4 c4, .slice Ag gs.length cg, .slice A6 n6 c6, .int .i64 st, .slice A8 n8 c8, .slice A9 n9 c9, .slice A10 n10 c10] 69)) W1 → W1.cell? ⟨w.heap.size + 1 + 1, 0, none⟩ = some (.int .i64 r.1) → W1.cell? ⟨w.heap.size + 1 + 1 + 1, 0, none⟩ = some (.bool r.2.1) → W1.cell? ⟨w.heap.size + 1 + 1 + 1 + 1, 0, none⟩ = some (.int .i64 r.2.2) → r = globalOf imps gs k →
        (W1.putObj D (.deferred none)).cell? ⟨w.heap.size + 1 + 1, 0, none⟩ = some (.int .i64 (globalOf imps gs k).1) ∧ (W1.putObj D (.deferred none)).cell? ⟨w.heap.size + 1 + 1 + 1, 0, none⟩ = some (.bool (globalOf imps gs k).2.1) ∧ (W1.putObj D (.deferred none)).cell? ⟨w.heap.size + 1 + 1 + 1 + 1, 0, none⟩ = some (.int .i64 (globalOf imps gs k).2.2) ∧ Below w.heap.size w (W1.putObj D (.deferred none)) := fun W1 r h1 h2 h3 h4 h5 h6 => by
      subst h6
      rw [← hszM] at h2
      exact ⟨cell_kept h3 (grownBy_putObj' _ D (.deferred none)) (fun r e => by cases e; exact ⟨_, h1, rfl⟩), cell_kept h4 (grownBy_putObj' _ D (.deferred none)) (fun r e => by cases e; exact ⟨_, h1, rfl⟩), cell_kept h5 (grownBy_putObj' _ D (.deferred none)) (fun r e => by cases e; exact ⟨_, h1, rfl⟩), (below_step hwM h2).trans (belowK_b (w := w) (Nat.le_refl _) W1 D _ _ (by omega) h1 rfl rfl)⟩
    have HG2 : Aside0 (Below w.heap.size w W) := ⟨by have h := hB; rw [← hszM] at h; exact below_step hwM h⟩
    clear hD hne hsz hB0 k1 k2 k3 k4 k5 k6 k7 q1 q2 q3 q4 q5 q6 q7 hwM hCM hszM
    by_cases h1 : k < (N : Int)
    · have d1 : decide (k < (N : Int)) = true := decide_eq_true h1
      have hpl : (0, false, 1701) = globalOf imps gs k := by unfold globalOf; rw [hN, if_neg hnone, if_pos (.inl h1)]
      gi_wp2
      have s1 := World.cell?_setCell_same' W ⟨w.heap.size + 1 + 1, 0, none⟩ (.int .i64 0) (by rw [hcr]; rfl)
      have s2 := World.cell?_setCell_same' (W.setCell ⟨w.heap.size + 1 + 1, 0, none⟩ (.int .i64 0)) ⟨w.heap.size + 1 + 1 + 1, 0, none⟩ (.bool false) (by rw [cell_set_far hcr2 (by simp)]; rfl)
      have s3 := World.cell?_setCell_same' ((W.setCell ⟨w.heap.size + 1 + 1, 0, none⟩ (.int .i64 0)).setCell ⟨w.heap.size + 1 + 1 + 1, 0, none⟩ (.bool false)) ⟨w.heap.size + 1 + 1 + 1 + 1, 0, none⟩ (.int .i64 1701) (by rw [cell_set_far (cell_set_far hcr3 (by simp <;> omega)) (by simp)]; rfl)
      have t1 := cell_set_far (x := .int .i64 1701) (b := ⟨w.heap.size + 1 + 1 + 1 + 1, 0, none⟩) (cell_set_far (x := .bool false) (b := ⟨w.heap.size + 1 + 1 + 1, 0, none⟩) s1 (by simp)) (by simp <;> omega)
      have t2 := cell_set_far (x := .int .i64 1701) (b := ⟨w.heap.size + 1 + 1 + 1 + 1, 0, none⟩) s2 (by simp)
      have hB3 := (((hB.setCell (p := ⟨w.heap.size + 1 + 1, 0, none⟩) (by simp <;> omega) (.int .i64 0)).setCell (p := ⟨w.heap.size + 1 + 1 + 1, 0, none⟩) (by simp <;> omega) (.bool false)).setCell (p := ⟨w.heap.size + 1 + 1 + 1 + 1, 0, none⟩) (by simp <;> omega) (.int .i64 1701))
      have hK3 := (((KeepsOthers.setCell W ⟨w.heap.size + 1 + 1, 0, none⟩ (.int .i64 0)).trans (KeepsOthers.setCell _ ⟨w.heap.size + 1 + 1 + 1, 0, none⟩ (.bool false))).trans (KeepsOthers.setCell _ ⟨w.heap.size + 1 + 1 + 1 + 1, 0, none⟩ (.int .i64 1701))).same D _ hK rfl
      refine ⟨by simp, .inl ⟨_, _, rfl, run_takeDeferred hK3, ?_⟩⟩
      obtain ⟨e1, e2, e3, e4⟩ := fin _ _ hK3 hB3 t1 t2 s3 hpl
      exact ⟨_, by simp [results, Try.f28, go_sem, e1, e2, e3], rfl, e4⟩
    · have d1 : decide (k < (N : Int)) = false := decide_eq_false h1
      have b0 : (N : Int) ≤ k := by omega
      have b2 : k ≤ 9223372036854775807 := by have := HK1.out; omega
      have b3 : 0 ≤ k - (N : Int) := by omega
      have bw : wrap64 (k - (N : Int)) = k - (N : Int) := by unfold wrap64; omega
      have bw2 : IntKind.i64.wrap (k - (N : Int)) = k - (N : Int) := (i64_w _).trans bw
      by_cases h2 : k - (N : Int) ≥ gs.length
      · have d2 : decide ((gs.length : Int) ≤ k - (N : Int)) = true := decide_eq_true h2
        have hpl : (0, false, 1701) = globalOf imps gs k := by unfold globalOf; rw [hN, if_neg hnone, if_pos (.inr h2)]
        gi_wp2
        have s1 := World.cell?_setCell_same' W ⟨w.heap.size + 1 + 1, 0, none⟩ (.int .i64 0) (by rw [hcr]; rfl)
        have s2 := World.cell?_setCell_same' (W.setCell ⟨w.heap.size + 1 + 1, 0, none⟩ (.int .i64 0)) ⟨w.heap.size + 1 + 1 + 1, 0, none⟩ (.bool false) (by rw [cell_set_far hcr2 (by simp)]; rfl)
        have s3 := World.cell?_setCell_same' ((W.setCell ⟨w.heap.size + 1 + 1, 0, none⟩ (.int .i64 0)).setCell ⟨w.heap.size + 1 + 1 + 1, 0, none⟩ (.bool false)) ⟨w.heap.size + 1 + 1 + 1 + 1, 0, none⟩ (.int .i64 1701) (by rw [cell_set_far (cell_set_far hcr3 (by simp <;> omega)) (by simp)]; rfl)
        have t1 := cell_set_far (x := .int .i64 1701) (b := ⟨w.heap.size + 1 + 1 + 1 + 1, 0, none⟩) (cell_set_far (x := .bool false) (b := ⟨w.heap.size + 1 + 1 + 1, 0, none⟩) s1 (by simp)) (by simp <;> omega)
        have t2 := cell_set_far (x := .int .i64 1701) (b := ⟨w.heap.size + 1 + 1 + 1 + 1, 0, none⟩) s2 (by simp)
        have hB3 := (((hB.setCell (p := ⟨w.heap.size + 1 + 1, 0, none⟩) (by simp <;> omega) (.int .i64 0)).setCell (p := ⟨w.heap.size + 1 + 1 + 1, 0, none⟩) (by simp <;> omega) (.bool false)).setCell (p := ⟨w.heap.size + 1 + 1 + 1 + 1, 0, none⟩) (by simp <;> omega) (.int .i64 1701))
        have hK3 := (((KeepsOthers.setCell W ⟨w.heap.size + 1 + 1, 0, none⟩ (.int .i64 0)).trans (KeepsOthers.setCell _ ⟨w.heap.size + 1 + 1 + 1, 0, none⟩ (.bool false))).trans (KeepsOthers.setCell _ ⟨w.heap.size + 1 + 1 + 1 + 1, 0, none⟩ (.int .i64 1701))).same D _ hK rfl
        refine ⟨by simp, .inl ⟨_, _, rfl, run_takeDeferred hK3, ?_⟩⟩
        obtain ⟨e1, e2, e3, e4⟩ := fin _ _ hK3 hB3 t1 t2 s3 hpl
        exact ⟨_, by simp [results, Try.f28, go_sem, e1, e2, e3], rfl, e4⟩
      · have d2 : decide ((gs.length : Int) ≤ k - (N : Int)) = false := decide_eq_false h2
        have hpl : ((rd_T93 gs (k - (N : Int))).f0, (rd_T93 gs (k - (N : Int))).f1, (0 : Int)) = globalOf imps gs k := by unfold globalOf; rw [hN, if_neg hnone, if_neg (by omega)]
        obtain ⟨ag, _, _, e, z0, z1, _⟩ := at_T93 HG.out (k - (N : Int)) b3 (by omega)
        subst e
        have b4 : k - (N : Int) < gs.length := by omega
        have ek : (k - (N : Int)).toNat = k.toNat - N := by omega
        rw [ek] at z0 z1
        obtain ⟨V0, hV0⟩ : ∃ V, (rd_T93 gs (k - (N : Int))).f0 = V := ⟨_, rfl⟩
        obtain ⟨V1, hV1⟩ : ∃ V, (rd_T93 gs (k - (N : Int))).f1 = V := ⟨_, rfl⟩
        rw [hV0] at z0 hpl
        rw [hV1] at z1 hpl
        have y0 : W.cell? (ag.add ((k.toNat - N) * 3)) = some (.int .i64 V0) := pw_cell_below HG2.out z0
        have y1 : W.cell? ⟨(ag.add ((k.toNat - N) * 3)).block, (ag.add ((k.toNat - N) * 3)).off + 1, none⟩ = some (.bool V1) := pw_cell_below HG2.out z1
        have hb1 : (⟨(ag.add ((k.toNat - N) * 3)).block, (ag.add ((k.toNat - N) * 3)).off + 1, none⟩ : Addr).block ≠ (⟨w.heap.size + 1 + 1, 0, none⟩ : Addr).block := by
          have := cell_lt z1
          simp only at this ⊢
          omega
        clear z0 z1 hV0 hV1 ek
        have hb0 : (ag.add ((k.toNat - N) * 3)).block ≠ (⟨w.heap.size + 1 + 1, 0, none⟩ : Addr).block := hb1
        gi_wp2
        refine wpIn_wide.2 (calm_wp ?_)
        refine start_ (n := 19) (S := fun w' => w'.cell? ⟨w.heap.size, 5, none⟩ = some (.slice (some ag) gs.length cg) ∧ w'.cell? ⟨w.heap.size + 1, 0, none⟩ = some (.int .i64 k) ∧ w'.cell? ⟨w.heap.size + 1 + 1 + 1 + 1 + 1, 0, none⟩ = some (.int .i64 N) ∧ w'.cell? (ag.add ((k.toNat - N) * 3)) = some (.int .i64 V0) ∧ w'.cell? ⟨(ag.add ((k.toNat - N) * 3)).block, (ag.add ((k.toNat - N) * 3)).off + 1, none⟩ = some (.bool V1)) (ds := [17, 18]) #[false, false, false, false, false, false, false, false, false, false, false, false, false, false, false, false, false, false, false] (by kernel_rfl) rfl rfl ⟨zf, hck, hcn, y0, y1⟩ (fun hHeld => ?_)
        refine pure_ (i := 0) (N := some 38) (v := ?_) (a' := ?_) #[true, false, false, false, false, false, false, false, false, false, false, false, false, false, false, false, false, false, false] rfl rfl (by kernel_rfl) (fun _ _ _ h => h) (Or.inl ⟨by rfl, ?_⟩) ?_ ?_
        rotate_left
        · intro w'
          go_simp
          with_reducible rfl
        rotate_left
        · simp only [Act.put, List.setIfInBounds_toArray, List.set_cons_zero, List.set_cons_succ, i64_w, i32_w]
          rfl
        refine pure_ (i := 8) (N := some 46) (v := ?_) (a' := ?_) #[true, false, false, false, false, false, false, false, true, false, false, false, false, false, false, false, false, false, false] rfl rfl (by kernel_rfl) (fun _ _ _ h => h) (Or.inl ⟨by rfl, ?_⟩) ?_ ?_
        rotate_left
        · intro w'
          go_simp
          with_reducible rfl
        rotate_left
        · simp only [Act.put, List.setIfInBounds_toArray, List.set_cons_zero, List.set_cons_succ, i64_w, i32_w]
          rfl
        refine take_ (i := 1) (N := some 39) (v := ?_) (a' := ?_) #[true, true, false, false, false, false, false, false, true, false, false, false, false, false, false, false, false, false, false] rfl rfl (by kernel_rfl) (fun _ _ _ h => h) (Or.inl ⟨by rfl, ?_⟩) hHeld ?_ ?_
        rotate_left
        · rintro w' ⟨s0, s1, s2, s3, s4⟩
          go_simp
          with_reducible rfl
        rotate_left
        · simp only [Act.put, List.setIfInBounds_toArray, List.set_cons_zero, List.set_cons_succ, i64_w, i32_w]
          rfl
        refine take_ (i := 2) (N := some 40) (v := ?_) (a' := ?_) #[true, true, true, false, false, false, false, false, true, false, false, false, false, false, false, false, false, false, false] rfl rfl (by kernel_rfl) (fun _ _ _ h => h) (Or.inl ⟨by rfl, ?_⟩) hHeld ?_ ?_
        rotate_left
        · rintro w' ⟨s0, s1, s2, s3, s4⟩
          go_simp
          with_reducible rfl
        rotate_left
        · simp only [Act.put, List.setIfInBounds_toArray, List.set_cons_zero, List.set_cons_succ, i64_w, i32_w]
          rfl
        refine take_ (i := 3) (N := some 41) (v := ?_) (a' := ?_) #[true, true, true, true, false, false, false, false, true, false, false, false, false, false, false, false, false, false, false] rfl rfl (by kernel_rfl) (fun _ _ _ h => h) (Or.inl ⟨by rfl, ?_⟩) hHeld ?_ ?_
        rotate_left
        · rintro w' ⟨s0, s1, s2, s3, s4⟩
          go_simp
          with_reducible rfl
        rotate_left
        · simp only [Act.put, List.setIfInBounds_toArray, List.set_cons_zero, List.set_cons_succ, i64_w, i32_w]
          rfl
        refine pure_ (i := 4) (N := some 42) (v := ?_) (a' := ?_) #[true, true, true, true, true, false, false, false, true, false, false, false, false, false, false, false, false, false, false] rfl rfl (by kernel_rfl) (fun _ _ _ h => h) (Or.inl ⟨by rfl, ?_⟩) ?_ ?_
        rotate_left
        · intro w'
          go_simp
          with_reducible rfl
        rotate_left
        · simp only [Act.put, List.setIfInBounds_toArray, List.set_cons_zero, List.set_cons_succ, i64_w, i32_w]
          rfl
        refine pure_ (i := 5) (N := some 43) (v := ?_) (a' := ?_) #[true, true, true, true, true, true, false, false, true, false, false, false, false, false, false, false, false, false, false] rfl rfl (by kernel_rfl) (fun _ _ _ h => h) (Or.inl ⟨by rfl, ?_⟩) ?_ ?_
        rotate_left
        · intro w'
          go_simp
          with_reducible rfl
        rotate_left
        · simp only [Act.put, List.setIfInBounds_toArray, List.set_cons_zero, List.set_cons_succ, i64_w, i32_w]
          rfl
        refine pure_ (i := 6) (N := some 44) (v := ?_) (a' := ?_) #[true, true, true, true, true, true, true, false, true, false, false, false, false, false, false, false, false, false, false] rfl rfl (by kernel_rfl) (fun _ _ _ h => h) (Or.inl ⟨by rfl, ?_⟩) ?_ ?_
        rotate_left
        · intro w'
          go_simp
          with_reducible rfl
        rotate_left
        · simp only [Act.put, List.setIfInBounds_toArray, List.set_cons_zero, List.set_cons_succ, i64_w, i32_w]
          rfl
        refine take_ (i := 7) (N := some 45) (v := ?_) (a' := ?_) #[true, true, true, true, true, true, true, true, true, false, false, false, false, false, false, false, false, false, false] rfl rfl (by kernel_rfl) (fun _ _ _ h => h) (Or.inl ⟨by rfl, ?_⟩) hHeld ?_ ?_
        rotate_left
        · rintro w' ⟨s0, s1, s2, s3, s4⟩
          go_simp
          with_reducible rfl
        rotate_left
        · simp only [Act.put, List.setIfInBounds_toArray, List.set_cons_zero, List.set_cons_succ, i64_w, i32_w]
          rfl
        refine take_ (i := 9) (N := some 47) (v := ?_) (a' := ?_) #[true, true, true, true, true, true, true, true, true, true, false, false, false, false, false, false, false, false, false] rfl rfl (by kernel_rfl) (fun _ _ _ h => h) (Or.inl ⟨by rfl, ?_⟩) hHeld ?_ ?_
        rotate_left
        · rintro w' ⟨s0, s1, s2, s3, s4⟩
          go_simp
          with_reducible rfl
        rotate_left
        · simp only [Act.put, List.setIfInBounds_toArray, List.set_cons_zero, List.set_cons_succ, i64_w, i32_w]
          rfl
        refine take_ (i := 10) (N := some 48) (v := ?_) (a' := ?_) #[true, true, true, true, true, true, true, true, true, true, true, false, false, false, false, false, false, false, false] rfl rfl (by kernel_rfl) (fun _ _ _ h => h) (Or.inl ⟨by rfl, ?_⟩) hHeld ?_ ?_
        rotate_left
        · rintro w' ⟨s0, s1, s2, s3, s4⟩
          go_simp
          with_reducible rfl
        rotate_left
        · simp only [Act.put, List.setIfInBounds_toArray, List.set_cons_zero, List.set_cons_succ, i64_w, i32_w]
          rfl
        refine take_ (i := 11) (N := some 49) (v := ?_) (a' := ?_) #[true, true, true, true, true, true, true, true, true, true, true, true, false, false, false, false, false, false, false] rfl rfl (by kernel_rfl) (fun _ _ _ h => h) (Or.inl ⟨by rfl, ?_⟩) hHeld ?_ ?_
        rotate_left
        · rintro w' ⟨s0, s1, s2, s3, s4⟩
          go_simp
          with_reducible rfl
        rotate_left
        · simp only [Act.put, List.setIfInBounds_toArray, List.set_cons_zero, List.set_cons_succ, i64_w, i32_w]
          rfl
        refine pure_ (i := 12) (N := some 50) (v := ?_) (a' := ?_) #[true, true, true, true, true, true, true, true, true, true, true, true, true, false, false, false, false, false, false] rfl rfl (by kernel_rfl) (fun _ _ _ h => h) (Or.inl ⟨by rfl, ?_⟩) ?_ ?_
        rotate_left
        · intro w'
          go_simp
          with_reducible rfl
        rotate_left
        · simp only [Act.put, List.setIfInBounds_toArray, List.set_cons_zero, List.set_cons_succ, i64_w, i32_w]
          rfl
        refine pure_ (i := 13) (N := some 51) (v := ?_) (a' := ?_) #[true, true, true, true, true, true, true, true, true, true, true, true, true, true, false, false, false, false, false] rfl rfl (by kernel_rfl) (fun _ _ _ h => h) (Or.inl ⟨by rfl, ?_⟩) ?_ ?_
        rotate_left
        · intro w'
          go_simp
          with_reducible rfl
        rotate_left
        · simp only [Act.put, List.setIfInBounds_toArray, List.set_cons_zero, List.set_cons_succ, i64_w, i32_w]
          rfl
        refine pure_ (i := 14) (N := some 52) (v := ?_) (a' := ?_) #[true, true, true, true, true, true, true, true, true, true, true, true, true, true, true, false, false, false, false] rfl rfl (by kernel_rfl) (fun _ _ _ h => h) (Or.inl ⟨by rfl, ?_⟩) ?_ ?_
        rotate_left
        · intro w'
          go_simp
          with_reducible rfl
        rotate_left
        · simp only [Act.put, List.setIfInBounds_toArray, List.set_cons_zero, List.set_cons_succ, i64_w, i32_w]
          rfl
        refine take_ (i := 15) (N := some 53) (v := ?_) (a' := ?_) #[true, true, true, true, true, true, true, true, true, true, true, true, true, true, true, true, false, false, false] rfl rfl (by kernel_rfl) (fun _ _ _ h => h) (Or.inl ⟨by rfl, ?_⟩) hHeld ?_ ?_
        rotate_left
        · rintro w' ⟨s0, s1, s2, s3, s4⟩
          go_simp
          with_reducible rfl
        rotate_left
        · simp only [Act.put, List.setIfInBounds_toArray, List.set_cons_zero, List.set_cons_succ, i64_w, i32_w]
          rfl
        refine one_ (i := 16) (N := none) #[true, true, true, true, true, true, true, true, true, true, true, true, true, true, true, true, true, false, false] rfl rfl (by kernel_rfl) (by decide) (fun K hK => ?_)
        refine skip_ (w1 := ?_) (by rfl) rfl ?_ ?_
        rotate_left
        · go_simp
          rfl
        refine hK.out _ _ ⟨cell_set_far zf (by simp <;> omega), cell_set_far hck (by simp), cell_set_far hcn (by simp <;> omega), cell_set_far y0 hb0, cell_set_far y1 hb1⟩ (fun hHeld => ?_)
        clear hK K
        refine last_ (i := 17) (N := none) #[true, true, true, true, true, true, true, true, true, true, true, true, true, true, true, true, true, true, false] rfl rfl (by kernel_rfl) (by decide) (fun K hK => ?_)
        refine skip_ (w1 := ?_) (by rfl) rfl ?_ ?_
        rotate_left
        · go_simp
          rfl
        refine hK.out _ _ ?_
        clear hK K
        refine last_ (i := 18) (N := none) #[true, true, true, true, true, true, true, true, true, true, true, true, true, true, true, true, true, true, true] rfl rfl (by kernel_rfl) (by decide) (fun K hK => ?_)
        refine skip_ (w1 := ?_) (by rfl) rfl ?_ ?_
        rotate_left
        · go_simp
          rfl
        refine hK.out _ _ ?_
        clear hK K
        refine done_ (by kernel_rfl) ?_
        refine calm_out ?_
        gi_wp2
        have s1 := World.cell?_setCell_same' W ⟨w.heap.size + 1 + 1, 0, none⟩ (.int .i64 V0) (by rw [hcr]; rfl)
        have s2 := World.cell?_setCell_same' (W.setCell ⟨w.heap.size + 1 + 1, 0, none⟩ (.int .i64 V0)) ⟨w.heap.size + 1 + 1 + 1, 0, none⟩ (.bool V1) (by rw [cell_set_far hcr2 (by simp)]; rfl)
        have s3 := World.cell?_setCell_same' ((W.setCell ⟨w.heap.size + 1 + 1, 0, none⟩ (.int .i64 V0)).setCell ⟨w.heap.size + 1 + 1 + 1, 0, none⟩ (.bool V1)) ⟨w.heap.size + 1 + 1 + 1 + 1, 0, none⟩ (.int .i64 0) (by rw [cell_set_far (cell_set_far hcr3 (by simp <;> omega)) (by simp)]; rfl)
        have t1 := cell_set_far (x := .int .i64 0) (b := ⟨w.heap.size + 1 + 1 + 1 + 1, 0, none⟩) (cell_set_far (x := .bool V1) (b := ⟨w.heap.size + 1 + 1 + 1, 0, none⟩) s1 (by simp)) (by simp <;> omega)
        have t2 := cell_set_far (x := .int .i64 0) (b := ⟨w.heap.size + 1 + 1 + 1 + 1, 0, none⟩) s2 (by simp)
        have hB3 := ((((hB.setCell (p := ⟨w.heap.size + 1 + 1, 0, none⟩) (by simp <;> omega) (.int .i64 V0)).setCell (p := ⟨w.heap.size + 1 + 1 + 1, 0, none⟩) (by simp <;> omega) (.bool V1)).setCell (p := ⟨w.heap.size + 1 + 1 + 1 + 1, 0, none⟩) (by simp <;> omega) (.int .i64 0))).drew
        have hK3 : ((((W.setCell ⟨w.heap.size + 1 + 1, 0, none⟩ (.int .i64 V0)).setCell ⟨w.heap.size + 1 + 1 + 1, 0, none⟩ (.bool V1)).setCell ⟨w.heap.size + 1 + 1 + 1 + 1, 0, none⟩ (.int .i64 0)).drew).heap[D]? = _ := (((KeepsOthers.setCell W ⟨w.heap.size + 1 + 1, 0, none⟩ (.int .i64 V0)).trans (KeepsOthers.setCell _ ⟨w.heap.size + 1 + 1 + 1, 0, none⟩ (.bool V1))).trans (KeepsOthers.setCell _ ⟨w.heap.size + 1 + 1 + 1 + 1, 0, none⟩ (.int .i64 0))).same D _ hK rfl
        refine ⟨by simp, .inl ⟨_, _, rfl, run_takeDeferred hK3, ?_⟩⟩
        have t1d : ((((W.setCell ⟨w.heap.size + 1 + 1, 0, none⟩ (.int .i64 V0)).setCell ⟨w.heap.size + 1 + 1 + 1, 0, none⟩ (.bool V1)).setCell ⟨w.heap.size + 1 + 1 + 1 + 1, 0, none⟩ (.int .i64 0)).drew).cell? ⟨w.heap.size + 1 + 1, 0, none⟩ = some (.int .i64 V0) := t1
        have t2d : ((((W.setCell ⟨w.heap.size + 1 + 1, 0, none⟩ (.int .i64 V0)).setCell ⟨w.heap.size + 1 + 1 + 1, 0, none⟩ (.bool V1)).setCell ⟨w.heap.size + 1 + 1 + 1 + 1, 0, none⟩ (.int .i64 0)).drew).cell? ⟨w.heap.size + 1 + 1 + 1, 0, none⟩ = some (.bool V1) := t2
        have t3d : ((((W.setCell ⟨w.heap.size + 1 + 1, 0, none⟩ (.int .i64 V0)).setCell ⟨w.heap.size + 1 + 1 + 1, 0, none⟩ (.bool V1)).setCell ⟨w.heap.size + 1 + 1 + 1 + 1, 0, none⟩ (.int .i64 0)).drew).cell? ⟨w.heap.size + 1 + 1 + 1 + 1, 0, none⟩ = some (.int .i64 0) := s3
        obtain ⟨e1, e2, e3, e4⟩ := fin _ (V0, V1, 0) hK3 hB3 t1d t2d t3d hpl
        exact ⟨_, by simp [results, Try.f28, go_sem, e1, e2, e3], rfl, e4⟩
  case stop =>
    rintro D cd pre W hD ⟨j, hj, rfl, hjk⟩ ⟨⟨rfl, p0, x, e1, e2, e3, e5, e6⟩, hB⟩ hK
    have eS : upTo imps 3 (j + 1) = upTo imps 3 j ++ [⟨j, hj, hjk⟩] := dif_pos ⟨hj, hjk⟩
    rw [eS] at e1
    obtain ⟨_, e4⟩ := List.append_inj' e1 rfl
    obtain rfl : x = ⟨j, hj, hjk⟩ := by simpa using e4.symm
    obtain ⟨hn1, hn2⟩ := nth_at hj hjk e2
    have hpl : globalOf imps gs k = ((rd_T90 imps (j : Int)).f3, (rd_T90 imps (j : Int)).f4, 0) := by unfold globalOf; rw [if_pos hn1, hn2]
    rw [hsz] at hD
    rw [← hszM] at hB
    have hB1 := below_step (show Below w.heap.size w (w.alloc (.cells #[.slice A0 n0 c0, .slice A imps.length c, .slice A2 n2 c2, .slice A3 n3 c3, .slice A4 n4 c4, .slice Ag gs.length cg, .slice A6 n6 c6, .int .i64 st, .slice A8 n8 c8, .slice A9 n9 c9, .slice A10 n10 c10] 69)) from (Below.refl _ w).alloc (Nat.le_refl _) _) hB
    gi_wp2
    refine ⟨by simp, .inl ⟨_, _, rfl, run_takeDeferred hK, ?_⟩⟩
    have h5 := cell_kept e3 (grownBy_putObj' _ D (.deferred none)) (fun r e => by cases e; exact ⟨_, hK, rfl⟩)
    have h6 := cell_kept e5 (grownBy_putObj' _ D (.deferred none)) (fun r e => by cases e; exact ⟨_, hK, rfl⟩)
    have h7 := cell_kept e6 (grownBy_putObj' _ D (.deferred none)) (fun r e => by cases e; exact ⟨_, hK, rfl⟩)
    exact ⟨.tuple #[.int .i64 (rd_T90 imps (j : Int)).f3, .bool (rd_T90 imps (j : Int)).f4, .int .i64 0], by simp [results, Try.f28, go_sem, h5, h6, h7], rfl, hB1.trans (belowK_b (w := w) (Nat.le_refl _) W D _ _ (by omega) hK rfl rfl)⟩
end Go.Proofs.Ytmofdpkddimmlaa.EFty
