/-
  What the claim leans on, cut to what is used (wip/tools/prune15.py): words, printed functions, walks.
-/
import Derived.Test.YtkdoijfjceeblaaDoorQF
import Derived.Test.YtkdoijfjceeblaaDoorQE15D
import Derived.Defers
import Derived.Recover
import Derived.Tactics2
import Derived.Laws.Pointers
namespace Go.Proofs.YtkdoijfjceeblaaDoor.EInstr
open Go Go.RowKit Go.Proofs.YtkdoijfjceeblaaDoor.F Go.Proofs.YtkdoijfjceeblaaDoorW.Hand Go.Proofs.YtkdoijfjceeblaaDoorW.PrintWords Go.Proofs.YtkdoijfjceeblaaDoorW.PrintLast Go.Proofs.YtkdoijfjceeblaaDoorW.PrintMore
open Go.Proofs.YtkdoijfjceeblaaDoor.LebGets (G)
open Go.Proofs.YtkdoijfjceeblaaDoor.LebGetS (GS)
set_option linter.unusedVariables false
set_option linter.unusedSimpArgs false
theorem of_w {op k : Int} (h : ofF op = k) (w : World) : Calls Tryd.prog 75 #[.int .i64 op] w fun e w' => e = .returned (.int .i64 k) ∧ Below w.heap.size w w' := by
 subst h
 exact (of_c op w).mono fun _ _ hh => ⟨hh.1, hh.2.below⟩
theorem wide_w {op : Int} {b : Bool} (h : wideB op = b) (w : World) : Calls Tryd.prog 82 #[.int .i64 op] w fun e w' => e = .returned (.bool b) ∧ Below w.heap.size w w' := by
 subst h
 exact (wide_c op w).mono fun _ _ hh => ⟨hh.1, hh.2.below⟩
theorem low_w {x y : Int} (h : x % 4294967296 = y) (w : World) : Calls Tryd.prog 85 #[.int .i64 x] w fun e w' => e = .returned (.int .i64 y) ∧ Below w.heap.size w w' := by
 subst h
 exact (bits_Low.calls x _ w rfl).mono fun _ _ hh => ⟨hh.1, hh.2.below⟩
theorem fr_new {W w w1 : World} {S : Nat → Prop} {g : Nat} (h : Fr W w S) (h1 : Fr w w1 (fun k => k = g)) (hg : W.heap.size ≤ g) : Fr W w1 S := by
 refine ⟨⟨h1.b.os.trans h.b.os, h1.b.tape.trans h.b.tape, h1.b.output.trans h.b.output, Nat.le_trans h.b.size h1.b.size, fun i hi => absurd hi (by omega)⟩, ⟨Nat.le_trans h.k.1 h1.k.1, fun i hi hn => ?_⟩⟩
 have e1 := h.k.2 i hi hn
 have e2 := h1.k.2 i (Nat.lt_of_lt_of_le hi h.k.1) (fun e => by have : i = g := e; omega)
 exact e2.trans e1
theorem rd_below {g : Nat} {s : ByteArray} {a m : Int} {w w1 : World} (h : RdAt g s a m w) (hb : Below w.heap.size w w1) : RdAt g s a m w1 := blk_below h hb
theorem low_8 {g : Nat} {s : ByteArray} {a m : Int} {W : World} (h : RdAt g s a m W) (h0 : 0 ≤ a) (hs : s.size ≤ 140737488355328) : Calls Tryd.prog 86 #[.pointer (some ⟨g, 0, none⟩), .int .i64 8] W (NumPost g s m W (pLow s 8 0 0 a)) := low_c 8 (by decide) h h0 hs
theorem low_4 {g : Nat} {s : ByteArray} {a m : Int} {W : World} (h : RdAt g s a m W) (h0 : 0 ≤ a) (hs : s.size ≤ 140737488355328) : Calls Tryd.prog 86 #[.pointer (some ⟨g, 0, none⟩), .int .i64 4] W (NumPost g s m W (pLow s 4 0 0 a)) := low_c 4 (by decide) h h0 hs
theorem block_er {P : Program} {f : FuncId} {args : Array Value} {g gi : Nat} {s : ByteArray} {op c : Int} {W : World} {r : ORes} (h : Calls P f args W (BlockPost g gi s op W r)) (hr : r = .error c) : Calls P f args W (Thrown c W (fun k => k = g ∨ k = gi)) := by
 subst hr
 exact h
theorem pBlock_x {s : ByteArray} {f : LFn} {op d a m a' m' : Int} {x : S110} (h : pBlock s f op d a m = .ok (x, a', m')) : ∃ t body els, x = ⟨op, 0, 0, 0, t, [], body, els⟩ := by
 unfold pBlock at h
 split at h
 ·cases h
 split at h
 ·cases h
 split at h
 ·cases h
 split at h
 ·cases h
 split at h
 ·split at h
  ·cases h
  ·cases h
   exact ⟨_, _, _, rfl⟩
 ·cases h
  exact ⟨_, _, _, rfl⟩
theorem block_ok {P : Program} {f : FuncId} {args : Array Value} {g gi : Nat} {s : ByteArray} {op t m1 a1 : Int} {body els : List S110} {W : World} {r : ORes} (h : Calls P f args W (BlockPost g gi s op W r)) (hr : r = .ok (⟨op, 0, 0, 0, t, [], body, els⟩, a1, m1)) :
  Calls P f args W fun e w' => ∃ A6 c6 A7 c7, e = .returned (.tuple #[]) ∧ w'.heap[gi]? = some (.cells #[.int .i64 op, .int .i64 0, .int .i64 0, .int .i64 0, .int .i64 t, .slice none 0 0, .slice A6 body.length c6, .slice A7 els.length c7] 110 (0, 0)) ∧ k110.R 110 w' 0 (fun k => W.heap.size ≤ k) (.slice A6 body.length c6) body ∧ k110.R 110 w' 0 (fun k => W.heap.size ≤ k) (.slice A7 els.length c7) els ∧ RdAt g s a1 m1 w' ∧ Fr W w' (fun k => k = g ∨ k = gi) := by
 subst hr
 refine h.mono ?_
 rintro e w' ⟨v6, v7, rfl, h1, _, h2, h3, h4, h5⟩
 obtain ⟨A6, c6, rfl⟩ := Kd.R_slice h2
 obtain ⟨A7, c7, rfl⟩ := Kd.R_slice h3
 exact ⟨A6, c6, A7, c7, rfl, h1, h2, h3, h4, h5⟩
theorem ofF_rng (op : Int) : ofF op = 0 ∨ ofF op = 1 ∨ ofF op = 2 ∨ ofF op = 3 ∨ ofF op = 4 ∨ ofF op = 5 ∨ ofF op = 6 ∨ ofF op = 7 ∨ ofF op = 8 ∨ ofF op = 9 := by
 unfold ofF
 repeat' split
 all_goals omega
theorem rd_keep {g : Nat} {s : ByteArray} {a m : Int} {w w1 : World} (h : RdAt g s a m w) (ho : w1.heap[g]? = w.heap[g]?) : RdAt g s a m w1 := ho.trans h
set_option maxHeartbeats 4000000 in
set_option maxRecDepth 100000 in
theorem one_3 {s : ByteArray} {n : Nat} (hl : ListOk s n) (hs : s.size ≤ 140737488355328) {g : Nat} {op a m d : Int} {W : World} (h : RdAt g s a m W) (h0 : 0 ≤ a) (h1 : a ≤ s.size) (hf : (s.size : Int) - a < n) (hm0 : 0 ≤ m) (hm : m ≤ 8192) (hd0 : 0 ≤ d) (hd : d ≤ 33) (hk : ofF op = 3) :
  Calls Tryd.prog 77 #[.pointer (some ⟨g, 0, none⟩), .int .i64 op, .int .i64 d] W (OnePost g s W (pOne s (pList s n) op d a m)) := by
 have H := am h
 have P := am (show 0 ≤ a ∧ a ≤ s.size ∧ (s.size : Int) - a < n ∧ 0 ≤ m ∧ m ≤ 8192 ∧ 0 ≤ d ∧ d ≤ 33 by omega)
 clear h hf hm0 hm hd0 hd h0 h1
 unfold pOne
 rw [hk]
 simp only [if_false, if_true, Int.reduceEq, ↓reduceIte, reduceCtorEq]
 cases hu : pU32 s a with
 | error c =>
  have HU := am hu
  clear hu
  simp only [oneI]
  go_enter Tryd.func77, Tryd.ntmps77
  go_wp2_with (first
   | ((with_reducible refine gate_dst (N := 6) rfl ?_); refine box_event ?hg (N := 6) ?hd (cs := #[.int .i64 0, .int .i64 0, .int .i64 0, .int .i64 0, .int .i64 0, .slice none 0 0, .slice none 0 0, .slice none 0 0]) (t := 110) ?hr ?_; (case hd => rfl); (case hg => rfl); (case hr => first | (go_simp; done) | (go_simp; rfl)); intro gr hggr w1 hA hb; have Kr1 := am hA; have R1 : Aside0 (RdAt g s a m w1) := ⟨blk_below H.out hb⟩; have F1 := am (Fr.of_below hb (fun k => k = g)); have NEr := am (show g ≠ gr by have := blk_lt H.out; omega); have GNr := am (show W.heap.size ≤ gr by omega); clear hggr hA hb)
   | ((with_reducible refine gate_dst (N := 7) rfl ?_); refine box_event ?hg (N := 7) ?hd (cs := #[.int .i64 0, .int .i64 0, .int .i64 0, .int .i64 0, .int .i64 0, .slice none 0 0, .slice none 0 0, .slice none 0 0]) (t := 110) ?hr ?_; (case hd => rfl); (case hg => rfl); (case hr => first | (go_simp; done) | (go_simp; rfl)); intro gi hggi w2 hA hb; have K2 := am hA; have Kr2 := am (blk_below Kr1.out hb); have R2 : Aside0 (RdAt g s a m w2) := ⟨blk_below R1.out hb⟩; have F2 := am (F1.out.below hb); have NEi := am (show g ≠ gi by have := blk_lt R1.out; omega); have NEir := am (show gr ≠ gi by have := blk_lt Kr1.out; omega); have GNi := am (show W.heap.size ≤ gi by have := F1.out.size; omega); clear hggi hA hb Kr1 R1 F1)
   | ((with_reducible refine gate_store (p := 7) rfl ?_); refine storeRow_event (g := gi) rfl rfl rfl (cs := #[.int .i64 op, .int .i64 0, .int .i64 0, .int .i64 0, .int .i64 0, .slice none 0 0, .slice none 0 0, .slice none 0 0]) rfl rfl K2.out (by kernel_rfl) rfl (by simp [Value.oneCell']) ?_; intro w3 hA hb ho hs; have K3 := am hA; have Kr3 := am ((ho gr NEir.out).trans Kr2.out); have R3 : Aside0 (RdAt g s a m w3) := ⟨(ho g NEi.out).trans R2.out⟩; have F3 := am (fr_new F2.out (Fr.stored (S := fun k => k = gi) hb ho hs rfl) GNi.out); clear hA hb ho hs K2 Kr2 R2 F2)
   | (go_at_call 75; (with_reducible refine (of_w hk _).mono ?_); rintro e w4 ⟨rfl, hb⟩; have K4 := am (blk_below K3.out hb); have Kr4 := am (blk_below Kr3.out hb); have R4 : Aside0 (RdAt g s a m w4) := ⟨blk_below R3.out hb⟩; have F4 := am (F3.out.below hb); have LI := am (blk_lt K4.out); have LR := am (blk_lt Kr4.out); have W4 := am F4.out.size; clear hb K3 Kr3 R3 F3)
   | (go_at_call 79; (with_reducible refine (as_er (u32r_c R4.out hs) HU.out).mono ?_); rintro e w9 ⟨rfl, g2⟩; have F9 := am (F4.out.then_ g2 (fun k hk => .inl hk)); clear g2))
  exact ⟨rfl, onePost_er rfl ⟨rfl, F9.out⟩⟩
 | ok p =>
  obtain ⟨x, a1⟩ := p
  have HU := am hu
  have HUr := am (pU32_ok hu)
  clear hu
  simp only [oneI]
  go_enter Tryd.func77, Tryd.ntmps77
  go_wp2_with (first
   | ((with_reducible refine gate_dst (N := 6) rfl ?_); refine box_event ?hg (N := 6) ?hd (cs := #[.int .i64 0, .int .i64 0, .int .i64 0, .int .i64 0, .int .i64 0, .slice none 0 0, .slice none 0 0, .slice none 0 0]) (t := 110) ?hr ?_; (case hd => rfl); (case hg => rfl); (case hr => first | (go_simp; done) | (go_simp; rfl)); intro gr hggr w1 hA hb; have Kr1 := am hA; have R1 : Aside0 (RdAt g s a m w1) := ⟨blk_below H.out hb⟩; have F1 := am (Fr.of_below hb (fun k => k = g)); have NEr := am (show g ≠ gr by have := blk_lt H.out; omega); have GNr := am (show W.heap.size ≤ gr by omega); clear hggr hA hb)
   | ((with_reducible refine gate_dst (N := 7) rfl ?_); refine box_event ?hg (N := 7) ?hd (cs := #[.int .i64 0, .int .i64 0, .int .i64 0, .int .i64 0, .int .i64 0, .slice none 0 0, .slice none 0 0, .slice none 0 0]) (t := 110) ?hr ?_; (case hd => rfl); (case hg => rfl); (case hr => first | (go_simp; done) | (go_simp; rfl)); intro gi hggi w2 hA hb; have K2 := am hA; have Kr2 := am (blk_below Kr1.out hb); have R2 : Aside0 (RdAt g s a m w2) := ⟨blk_below R1.out hb⟩; have F2 := am (F1.out.below hb); have NEi := am (show g ≠ gi by have := blk_lt R1.out; omega); have NEir := am (show gr ≠ gi by have := blk_lt Kr1.out; omega); have GNi := am (show W.heap.size ≤ gi by have := F1.out.size; omega); clear hggi hA hb Kr1 R1 F1)
   | ((with_reducible refine gate_store (p := 7) rfl ?_); refine storeRow_event (g := gi) rfl rfl rfl (cs := #[.int .i64 op, .int .i64 0, .int .i64 0, .int .i64 0, .int .i64 0, .slice none 0 0, .slice none 0 0, .slice none 0 0]) rfl rfl K2.out (by kernel_rfl) rfl (by simp [Value.oneCell']) ?_; intro w3 hA hb ho hs; have K3 := am hA; have Kr3 := am ((ho gr NEir.out).trans Kr2.out); have R3 : Aside0 (RdAt g s a m w3) := ⟨(ho g NEi.out).trans R2.out⟩; have F3 := am (fr_new F2.out (Fr.stored (S := fun k => k = gi) hb ho hs rfl) GNi.out); clear hA hb ho hs K2 Kr2 R2 F2)
   | (go_at_call 75; (with_reducible refine (of_w hk _).mono ?_); rintro e w4 ⟨rfl, hb⟩; have K4 := am (blk_below K3.out hb); have Kr4 := am (blk_below Kr3.out hb); have R4 : Aside0 (RdAt g s a m w4) := ⟨blk_below R3.out hb⟩; have F4 := am (F3.out.below hb); have LI := am (blk_lt K4.out); have LR := am (blk_lt Kr4.out); have W4 := am F4.out.size; clear hb K3 Kr3 R3 F3)
   | (go_at_call 79; (with_reducible refine (as_ok (u32r_c R4.out hs) HU.out).mono ?_); rintro e w5 ⟨rfl, g1, g2⟩; have R5 := am g1; have K5 := am (g2.block K4.out (fun h => NEi.out h.symm)); have Kr5 := am (g2.block Kr4.out (fun h => NEr.out h.symm)); have F5 := am (F4.out.then_ g2 (fun k hk => .inl hk)); clear g1 g2 K4 Kr4 R4 F4)
   | ((with_reducible refine gate_store (p := 22) rfl ?_); refine storeCell_event (g := gi) (j := 1) (x := .int .i64 x) rfl rfl rfl rfl rfl K5.out (by simp) (by kernel_rfl) rfl ?_; intro w6 hA hb ho hs; have K6 : Aside0 (w6.heap[gi]? = some (.cells #[.int .i64 op, .int .i64 x, .int .i64 0, .int .i64 0, .int .i64 0, .slice none 0 0, .slice none 0 0, .slice none 0 0] 110 (0, 0))) := ⟨hA⟩; have Kr6 := am ((ho gr NEir.out).trans Kr5.out); have R6 := am (rd_keep R5.out (ho g NEi.out)); have F6 := am (fr_new F5.out (Fr.stored (S := fun k => k = gi) hb ho hs rfl) GNi.out); have y0 : w6.cell? ⟨gi, 0, none⟩ = some (.int .i64 op) := blk_cell K6.out 0; have y1 : w6.cell? ⟨gi, 1, none⟩ = some (.int .i64 x) := blk_cell K6.out 1; have y2 : w6.cell? ⟨gi, 2, none⟩ = some (.int .i64 0) := blk_cell K6.out 2; have y3 : w6.cell? ⟨gi, 3, none⟩ = some (.int .i64 0) := blk_cell K6.out 3; have y4 : w6.cell? ⟨gi, 4, none⟩ = some (.int .i64 0) := blk_cell K6.out 4; have y5 : w6.cell? ⟨gi, 5, none⟩ = some (.slice none 0 0) := blk_cell K6.out 5; have y6 : w6.cell? ⟨gi, 6, none⟩ = some (.slice none 0 0) := blk_cell K6.out 6; have y7 : w6.cell? ⟨gi, 7, none⟩ = some (.slice none 0 0) := blk_cell K6.out 7; clear hA hb ho hs K5 Kr5 R5 F5)
   | ((with_reducible refine gate_store (p := 6) rfl ?_); refine storeRow_event (g := gr) rfl rfl rfl (cs := #[.int .i64 op, .int .i64 x, .int .i64 0, .int .i64 0, .int .i64 0, .slice none 0 0, .slice none 0 0, .slice none 0 0]) rfl rfl Kr6.out (by kernel_rfl) rfl (by simp [Value.oneCell']) ?_; intro w7 hA hb ho hs; have Kr7 := am hA; have R7 := am (rd_keep R6.out (ho g NEr.out)); have F7 := am (fr_new F6.out (Fr.stored (S := fun k => k = gr) hb ho hs rfl) GNr.out); have q0 : w7.cell? ⟨gr, 0, none⟩ = some (.int .i64 op) := blk_cell Kr7.out 0; have q1 : w7.cell? ⟨gr, 1, none⟩ = some (.int .i64 x) := blk_cell Kr7.out 1; have q2 : w7.cell? ⟨gr, 2, none⟩ = some (.int .i64 0) := blk_cell Kr7.out 2; have q3 : w7.cell? ⟨gr, 3, none⟩ = some (.int .i64 0) := blk_cell Kr7.out 3; have q4 : w7.cell? ⟨gr, 4, none⟩ = some (.int .i64 0) := blk_cell Kr7.out 4; have q5 : w7.cell? ⟨gr, 5, none⟩ = some (.slice none 0 0) := blk_cell Kr7.out 5; have q6 : w7.cell? ⟨gr, 6, none⟩ = some (.slice none 0 0) := blk_cell Kr7.out 6; have q7 : w7.cell? ⟨gr, 7, none⟩ = some (.slice none 0 0) := blk_cell Kr7.out 7; clear hA hb ho hs Kr6 R6 F6))
  exact bodyPost_ret (v := .agg #[.int .i64 op, .int .i64 x, .int .i64 0, .int .i64 0, .int .i64 0, .slice none 0 0, .slice none 0 0, .slice none 0 0]) (by simp [results, Tryd.f77, go_sem, q0, q1, q2, q3, q4, q5, q6, q7]) rfl ⟨_, _, _, rfl, k110_mkM w7 0 _ ⟨op, x, 0, 0, 0, [], [], []⟩ (Kd.R_nil _ _ _ _ _) (Kd.R_nil _ _ _ _ _) (Kd.R_nil _ _ _ _ _), R7.out, F7.out⟩
set_option maxHeartbeats 4000000 in
set_option maxRecDepth 100000 in
theorem one_1 {s : ByteArray} {n : Nat} (hl : ListOk s n) (hs : s.size ≤ 140737488355328) {g : Nat} {op a m d : Int} {W : World} (h : RdAt g s a m W) (h0 : 0 ≤ a) (h1 : a ≤ s.size) (hf : (s.size : Int) - a < n) (hm0 : 0 ≤ m) (hm : m ≤ 8192) (hd0 : 0 ≤ d) (hd : d ≤ 33) (hk : ofF op = 1) :
  Calls Tryd.prog 77 #[.pointer (some ⟨g, 0, none⟩), .int .i64 op, .int .i64 d] W (OnePost g s W (pOne s (pList s n) op d a m)) := by
 have H := am h
 have P := am (show 0 ≤ a ∧ a ≤ s.size ∧ (s.size : Int) - a < n ∧ 0 ≤ m ∧ m ≤ 8192 ∧ 0 ≤ d ∧ d ≤ 33 by omega)
 clear h hf hm0 hm hd0 hd h0 h1
 unfold pOne
 rw [hk]
 simp only [if_false, if_true, Int.reduceEq, ↓reduceIte, reduceCtorEq]
 go_enter Tryd.func77, Tryd.ntmps77
 go_wp2_with (first
  | ((with_reducible refine gate_dst (N := 6) rfl ?_); refine box_event ?hg (N := 6) ?hd (cs := #[.int .i64 0, .int .i64 0, .int .i64 0, .int .i64 0, .int .i64 0, .slice none 0 0, .slice none 0 0, .slice none 0 0]) (t := 110) ?hr ?_; (case hd => rfl); (case hg => rfl); (case hr => first | (go_simp; done) | (go_simp; rfl)); intro gr hggr w1 hA hb; have Kr1 := am hA; have R1 : Aside0 (RdAt g s a m w1) := ⟨blk_below H.out hb⟩; have F1 := am (Fr.of_below hb (fun k => k = g)); have NEr := am (show g ≠ gr by have := blk_lt H.out; omega); have GNr := am (show W.heap.size ≤ gr by omega); clear hggr hA hb)
  | ((with_reducible refine gate_dst (N := 7) rfl ?_); refine box_event ?hg (N := 7) ?hd (cs := #[.int .i64 0, .int .i64 0, .int .i64 0, .int .i64 0, .int .i64 0, .slice none 0 0, .slice none 0 0, .slice none 0 0]) (t := 110) ?hr ?_; (case hd => rfl); (case hg => rfl); (case hr => first | (go_simp; done) | (go_simp; rfl)); intro gi hggi w2 hA hb; have K2 := am hA; have Kr2 := am (blk_below Kr1.out hb); have R2 : Aside0 (RdAt g s a m w2) := ⟨blk_below R1.out hb⟩; have F2 := am (F1.out.below hb); have NEi := am (show g ≠ gi by have := blk_lt R1.out; omega); have NEir := am (show gr ≠ gi by have := blk_lt Kr1.out; omega); have GNi := am (show W.heap.size ≤ gi by have := F1.out.size; omega); clear hggi hA hb Kr1 R1 F1)
  | ((with_reducible refine gate_store (p := 7) rfl ?_); refine storeRow_event (g := gi) rfl rfl rfl (cs := #[.int .i64 op, .int .i64 0, .int .i64 0, .int .i64 0, .int .i64 0, .slice none 0 0, .slice none 0 0, .slice none 0 0]) rfl rfl K2.out (by kernel_rfl) rfl (by simp [Value.oneCell']) ?_; intro w3 hA hb ho hs; have K3 := am hA; have Kr3 := am ((ho gr NEir.out).trans Kr2.out); have R3 : Aside0 (RdAt g s a m w3) := ⟨(ho g NEi.out).trans R2.out⟩; have F3 := am (fr_new F2.out (Fr.stored (S := fun k => k = gi) hb ho hs rfl) GNi.out); clear hA hb ho hs K2 Kr2 R2 F2)
  | (go_at_call 75; (with_reducible refine (of_w hk _).mono ?_); rintro e w4 ⟨rfl, hb⟩; have K4 := am (blk_below K3.out hb); have Kr4 := am (blk_below Kr3.out hb); have R4 : Aside0 (RdAt g s a m w4) := ⟨blk_below R3.out hb⟩; have F4 := am (F3.out.below hb); have y0 : w4.cell? ⟨gi, 0, none⟩ = some (.int .i64 op) := blk_cell K4.out 0; have y1 : w4.cell? ⟨gi, 1, none⟩ = some (.int .i64 0) := blk_cell K4.out 1; have y2 : w4.cell? ⟨gi, 2, none⟩ = some (.int .i64 0) := blk_cell K4.out 2; have y3 : w4.cell? ⟨gi, 3, none⟩ = some (.int .i64 0) := blk_cell K4.out 3; have y4 : w4.cell? ⟨gi, 4, none⟩ = some (.int .i64 0) := blk_cell K4.out 4; have y5 : w4.cell? ⟨gi, 5, none⟩ = some (.slice none 0 0) := blk_cell K4.out 5; have y6 : w4.cell? ⟨gi, 6, none⟩ = some (.slice none 0 0) := blk_cell K4.out 6; have y7 : w4.cell? ⟨gi, 7, none⟩ = some (.slice none 0 0) := blk_cell K4.out 7; have LI := am (blk_lt K4.out); have LR := am (blk_lt Kr4.out); have W4 := am F4.out.size; clear hb K3 Kr3 R3 F3)
  | ((with_reducible refine gate_store (p := 6) rfl ?_); refine storeRow_event (g := gr) rfl rfl rfl (cs := #[.int .i64 op, .int .i64 0, .int .i64 0, .int .i64 0, .int .i64 0, .slice none 0 0, .slice none 0 0, .slice none 0 0]) rfl rfl Kr4.out (by kernel_rfl) rfl (by simp [Value.oneCell']) ?_; intro w5 hA hb ho hs; have Kr5 := am hA; have R5 := am (rd_keep R4.out (ho g NEr.out)); have F5 := am (fr_new F4.out (Fr.stored (S := fun k => k = gr) hb ho hs rfl) GNr.out); have q0 : w5.cell? ⟨gr, 0, none⟩ = some (.int .i64 op) := blk_cell Kr5.out 0; have q1 : w5.cell? ⟨gr, 1, none⟩ = some (.int .i64 0) := blk_cell Kr5.out 1; have q2 : w5.cell? ⟨gr, 2, none⟩ = some (.int .i64 0) := blk_cell Kr5.out 2; have q3 : w5.cell? ⟨gr, 3, none⟩ = some (.int .i64 0) := blk_cell Kr5.out 3; have q4 : w5.cell? ⟨gr, 4, none⟩ = some (.int .i64 0) := blk_cell Kr5.out 4; have q5 : w5.cell? ⟨gr, 5, none⟩ = some (.slice none 0 0) := blk_cell Kr5.out 5; have q6 : w5.cell? ⟨gr, 6, none⟩ = some (.slice none 0 0) := blk_cell Kr5.out 6; have q7 : w5.cell? ⟨gr, 7, none⟩ = some (.slice none 0 0) := blk_cell Kr5.out 7; clear hA hb ho hs Kr4 R4 F4))
 exact bodyPost_ret (v := .agg #[.int .i64 op, .int .i64 0, .int .i64 0, .int .i64 0, .int .i64 0, .slice none 0 0, .slice none 0 0, .slice none 0 0]) (by simp [results, Tryd.f77, go_sem, q0, q1, q2, q3, q4, q5, q6, q7]) rfl ⟨_, _, _, rfl, k110_mkM w5 0 _ ⟨op, 0, 0, 0, 0, [], [], []⟩ (Kd.R_nil _ _ _ _ _) (Kd.R_nil _ _ _ _ _) (Kd.R_nil _ _ _ _ _), R5.out, F5.out⟩
set_option maxHeartbeats 4000000 in
set_option maxRecDepth 100000 in
theorem one_4 {s : ByteArray} {n : Nat} (hl : ListOk s n) (hs : s.size ≤ 140737488355328) {g : Nat} {op a m d : Int} {W : World} (h : RdAt g s a m W) (h0 : 0 ≤ a) (h1 : a ≤ s.size) (hf : (s.size : Int) - a < n) (hm0 : 0 ≤ m) (hm : m ≤ 8192) (hd0 : 0 ≤ d) (hd : d ≤ 33) (hk : ofF op = 4) :
  Calls Tryd.prog 77 #[.pointer (some ⟨g, 0, none⟩), .int .i64 op, .int .i64 d] W (OnePost g s W (pOne s (pList s n) op d a m)) := by
 have H := am h
 have P := am (show 0 ≤ a ∧ a ≤ s.size ∧ (s.size : Int) - a < n ∧ 0 ≤ m ∧ m ≤ 8192 ∧ 0 ≤ d ∧ d ≤ 33 by omega)
 clear h hf hm0 hm hd0 hd h0 h1
 unfold pOne
 rw [hk]
 simp only [if_false, if_true, Int.reduceEq, ↓reduceIte, reduceCtorEq]
 cases hu : pLabels s a with
 | error c =>
  have HU := am hu
  clear hu
  simp only []
  go_enter Tryd.func77, Tryd.ntmps77
  go_wp2_with (first
   | ((with_reducible refine gate_dst (N := 6) rfl ?_); refine box_event ?hg (N := 6) ?hd (cs := #[.int .i64 0, .int .i64 0, .int .i64 0, .int .i64 0, .int .i64 0, .slice none 0 0, .slice none 0 0, .slice none 0 0]) (t := 110) ?hr ?_; (case hd => rfl); (case hg => rfl); (case hr => first | (go_simp; done) | (go_simp; rfl)); intro gr hggr w1 hA hb; have Kr1 := am hA; have R1 : Aside0 (RdAt g s a m w1) := ⟨blk_below H.out hb⟩; have F1 := am (Fr.of_below hb (fun k => k = g)); have NEr := am (show g ≠ gr by have := blk_lt H.out; omega); have GNr := am (show W.heap.size ≤ gr by omega); clear hggr hA hb)
   | ((with_reducible refine gate_dst (N := 7) rfl ?_); refine box_event ?hg (N := 7) ?hd (cs := #[.int .i64 0, .int .i64 0, .int .i64 0, .int .i64 0, .int .i64 0, .slice none 0 0, .slice none 0 0, .slice none 0 0]) (t := 110) ?hr ?_; (case hd => rfl); (case hg => rfl); (case hr => first | (go_simp; done) | (go_simp; rfl)); intro gi hggi w2 hA hb; have K2 := am hA; have Kr2 := am (blk_below Kr1.out hb); have R2 : Aside0 (RdAt g s a m w2) := ⟨blk_below R1.out hb⟩; have F2 := am (F1.out.below hb); have NEi := am (show g ≠ gi by have := blk_lt R1.out; omega); have NEir := am (show gr ≠ gi by have := blk_lt Kr1.out; omega); have GNi := am (show W.heap.size ≤ gi by have := F1.out.size; omega); clear hggi hA hb Kr1 R1 F1)
   | ((with_reducible refine gate_store (p := 7) rfl ?_); refine storeRow_event (g := gi) rfl rfl rfl (cs := #[.int .i64 op, .int .i64 0, .int .i64 0, .int .i64 0, .int .i64 0, .slice none 0 0, .slice none 0 0, .slice none 0 0]) rfl rfl K2.out (by kernel_rfl) rfl (by simp [Value.oneCell']) ?_; intro w3 hA hb ho hs; have K3 := am hA; have Kr3 := am ((ho gr NEir.out).trans Kr2.out); have R3 : Aside0 (RdAt g s a m w3) := ⟨(ho g NEi.out).trans R2.out⟩; have F3 := am (fr_new F2.out (Fr.stored (S := fun k => k = gi) hb ho hs rfl) GNi.out); clear hA hb ho hs K2 Kr2 R2 F2)
   | (go_at_call 75; (with_reducible refine (of_w hk _).mono ?_); rintro e w4 ⟨rfl, hb⟩; have K4 := am (blk_below K3.out hb); have Kr4 := am (blk_below Kr3.out hb); have R4 : Aside0 (RdAt g s a m w4) := ⟨blk_below R3.out hb⟩; have F4 := am (F3.out.below hb); have LI := am (blk_lt K4.out); have LR := am (blk_lt Kr4.out); have W4 := am F4.out.size; clear hb K3 Kr3 R3 F3)
   | (go_at_call 80; (with_reducible refine (row_er (labels_c R4.out hs) HU.out).mono ?_); rintro e w9 ⟨rfl, g2⟩; have F9 := am (F4.out.then_ g2 (fun k hk => .inl hk)); clear g2))
  exact ⟨rfl, onePost_er rfl ⟨rfl, F9.out⟩⟩
 | ok p =>
  obtain ⟨xs, a1⟩ := p
  have HU := am hu
  have HUr := am (pLabels_ok hu)
  clear hu
  simp only []
  go_enter Tryd.func77, Tryd.ntmps77
  go_wp2_with (first
   | ((with_reducible refine gate_dst (N := 6) rfl ?_); refine box_event ?hg (N := 6) ?hd (cs := #[.int .i64 0, .int .i64 0, .int .i64 0, .int .i64 0, .int .i64 0, .slice none 0 0, .slice none 0 0, .slice none 0 0]) (t := 110) ?hr ?_; (case hd => rfl); (case hg => rfl); (case hr => first | (go_simp; done) | (go_simp; rfl)); intro gr hggr w1 hA hb; have Kr1 := am hA; have R1 : Aside0 (RdAt g s a m w1) := ⟨blk_below H.out hb⟩; have F1 := am (Fr.of_below hb (fun k => k = g)); have NEr := am (show g ≠ gr by have := blk_lt H.out; omega); have GNr := am (show W.heap.size ≤ gr by omega); clear hggr hA hb)
   | ((with_reducible refine gate_dst (N := 7) rfl ?_); refine box_event ?hg (N := 7) ?hd (cs := #[.int .i64 0, .int .i64 0, .int .i64 0, .int .i64 0, .int .i64 0, .slice none 0 0, .slice none 0 0, .slice none 0 0]) (t := 110) ?hr ?_; (case hd => rfl); (case hg => rfl); (case hr => first | (go_simp; done) | (go_simp; rfl)); intro gi hggi w2 hA hb; have K2 := am hA; have Kr2 := am (blk_below Kr1.out hb); have R2 : Aside0 (RdAt g s a m w2) := ⟨blk_below R1.out hb⟩; have F2 := am (F1.out.below hb); have NEi := am (show g ≠ gi by have := blk_lt R1.out; omega); have NEir := am (show gr ≠ gi by have := blk_lt Kr1.out; omega); have GNi := am (show W.heap.size ≤ gi by have := F1.out.size; omega); clear hggi hA hb Kr1 R1 F1)
   | ((with_reducible refine gate_store (p := 7) rfl ?_); refine storeRow_event (g := gi) rfl rfl rfl (cs := #[.int .i64 op, .int .i64 0, .int .i64 0, .int .i64 0, .int .i64 0, .slice none 0 0, .slice none 0 0, .slice none 0 0]) rfl rfl K2.out (by kernel_rfl) rfl (by simp [Value.oneCell']) ?_; intro w3 hA hb ho hs; have K3 := am hA; have Kr3 := am ((ho gr NEir.out).trans Kr2.out); have R3 : Aside0 (RdAt g s a m w3) := ⟨(ho g NEi.out).trans R2.out⟩; have F3 := am (fr_new F2.out (Fr.stored (S := fun k => k = gi) hb ho hs rfl) GNi.out); clear hA hb ho hs K2 Kr2 R2 F2)
   | (go_at_call 75; (with_reducible refine (of_w hk _).mono ?_); rintro e w4 ⟨rfl, hb⟩; have K4 := am (blk_below K3.out hb); have Kr4 := am (blk_below Kr3.out hb); have R4 : Aside0 (RdAt g s a m w4) := ⟨blk_below R3.out hb⟩; have F4 := am (F3.out.below hb); have LI := am (blk_lt K4.out); have LR := am (blk_lt Kr4.out); have W4 := am F4.out.size; clear hb K3 Kr3 R3 F3)
   | (go_at_call 80; (with_reducible refine (row_ok (labels_c R4.out hs) HU.out).mono ?_); rintro e w5 ⟨v5, rfl, g0, g1, g2⟩; have R5 := am g1; have K5 := am (g2.block K4.out (fun h => NEi.out h.symm)); have Kr5 := am (g2.block Kr4.out (fun h => NEr.out h.symm)); have F5 := am (F4.out.then_ g2 (fun k hk => .inl hk)); obtain ⟨A5, c5, rfl⟩ := Kd.R_slice g0; have L_5 := am g0; clear g0; clear g1 g2 K4 Kr4 R4 F4)
   | ((with_reducible refine gate_store (p := 27) rfl ?_); refine storeCell_event (g := gi) (j := 5) (x := .slice A5 xs.length c5) rfl rfl rfl rfl rfl K5.out (by simp) (by kernel_rfl) rfl ?_; intro w6 hA hb ho hs; have K6 : Aside0 (w6.heap[gi]? = some (.cells #[.int .i64 op, .int .i64 0, .int .i64 0, .int .i64 0, .int .i64 0, .slice A5 xs.length c5, .slice none 0 0, .slice none 0 0] 110 (0, 0))) := ⟨hA⟩; have Kr6 := am ((ho gr NEir.out).trans Kr5.out); have R6 := am (rd_keep R5.out (ho g NEi.out)); have F6 := am (fr_new F5.out (Fr.stored (S := fun k => k = gi) hb ho hs rfl) GNi.out); have L_6 := am (Kd.R_step L_5.out (fun k hk _ => ho k (ne_ge LI.out hk))); clear L_5; have y0 : w6.cell? ⟨gi, 0, none⟩ = some (.int .i64 op) := blk_cell K6.out 0; have y1 : w6.cell? ⟨gi, 1, none⟩ = some (.int .i64 0) := blk_cell K6.out 1; have y2 : w6.cell? ⟨gi, 2, none⟩ = some (.int .i64 0) := blk_cell K6.out 2; have y3 : w6.cell? ⟨gi, 3, none⟩ = some (.int .i64 0) := blk_cell K6.out 3; have y4 : w6.cell? ⟨gi, 4, none⟩ = some (.int .i64 0) := blk_cell K6.out 4; have y5 : w6.cell? ⟨gi, 5, none⟩ = some (.slice A5 xs.length c5) := blk_cell K6.out 5; have y6 : w6.cell? ⟨gi, 6, none⟩ = some (.slice none 0 0) := blk_cell K6.out 6; have y7 : w6.cell? ⟨gi, 7, none⟩ = some (.slice none 0 0) := blk_cell K6.out 7; clear hA hb ho hs K5 Kr5 R5 F5)
   | ((with_reducible refine gate_store (p := 6) rfl ?_); refine storeRow_event (g := gr) rfl rfl rfl (cs := #[.int .i64 op, .int .i64 0, .int .i64 0, .int .i64 0, .int .i64 0, .slice A5 xs.length c5, .slice none 0 0, .slice none 0 0]) rfl rfl Kr6.out (by kernel_rfl) rfl (by simp [Value.oneCell']) ?_; intro w7 hA hb ho hs; have Kr7 := am hA; have R7 := am (rd_keep R6.out (ho g NEr.out)); have F7 := am (fr_new F6.out (Fr.stored (S := fun k => k = gr) hb ho hs rfl) GNr.out); have L_7 := am (Kd.R_step L_6.out (fun k hk _ => ho k (ne_ge LR.out hk))); clear L_6; have q0 : w7.cell? ⟨gr, 0, none⟩ = some (.int .i64 op) := blk_cell Kr7.out 0; have q1 : w7.cell? ⟨gr, 1, none⟩ = some (.int .i64 0) := blk_cell Kr7.out 1; have q2 : w7.cell? ⟨gr, 2, none⟩ = some (.int .i64 0) := blk_cell Kr7.out 2; have q3 : w7.cell? ⟨gr, 3, none⟩ = some (.int .i64 0) := blk_cell Kr7.out 3; have q4 : w7.cell? ⟨gr, 4, none⟩ = some (.int .i64 0) := blk_cell Kr7.out 4; have q5 : w7.cell? ⟨gr, 5, none⟩ = some (.slice A5 xs.length c5) := blk_cell Kr7.out 5; have q6 : w7.cell? ⟨gr, 6, none⟩ = some (.slice none 0 0) := blk_cell Kr7.out 6; have q7 : w7.cell? ⟨gr, 7, none⟩ = some (.slice none 0 0) := blk_cell Kr7.out 7; clear hA hb ho hs Kr6 R6 F6))
  exact bodyPost_ret (v := .agg #[.int .i64 op, .int .i64 0, .int .i64 0, .int .i64 0, .int .i64 0, .slice A5 xs.length c5, .slice none 0 0, .slice none 0 0]) (by simp [results, Tryd.f77, go_sem, q0, q1, q2, q3, q4, q5, q6, q7]) rfl ⟨_, _, _, rfl, k110_mkM w7 0 _ ⟨op, 0, 0, 0, 0, xs, [], []⟩ (Kd.R_mono L_7.out (fun k hk => Nat.le_trans W4.out hk)) (Kd.R_nil _ _ _ _ _) (Kd.R_nil _ _ _ _ _), R7.out, F7.out⟩
set_option maxHeartbeats 4000000 in
set_option maxRecDepth 100000 in
theorem one_5 {s : ByteArray} {n : Nat} (hl : ListOk s n) (hs : s.size ≤ 140737488355328) {g : Nat} {op a m d : Int} {W : World} (h : RdAt g s a m W) (h0 : 0 ≤ a) (h1 : a ≤ s.size) (hf : (s.size : Int) - a < n) (hm0 : 0 ≤ m) (hm : m ≤ 8192) (hd0 : 0 ≤ d) (hd : d ≤ 33) (hk : ofF op = 5) :
  Calls Tryd.prog 77 #[.pointer (some ⟨g, 0, none⟩), .int .i64 op, .int .i64 d] W (OnePost g s W (pOne s (pList s n) op d a m)) := by
 have H := am h
 have P := am (show 0 ≤ a ∧ a ≤ s.size ∧ (s.size : Int) - a < n ∧ 0 ≤ m ∧ m ≤ 8192 ∧ 0 ≤ d ∧ d ≤ 33 by omega)
 clear h hf hm0 hm hd0 hd h0 h1
 unfold pOne
 rw [hk]
 simp only [if_false, if_true, Int.reduceEq, ↓reduceIte, reduceCtorEq]
 cases hu : pU32 s a with
 | error c =>
  have HU := am hu
  clear hu
  simp only []
  go_enter Tryd.func77, Tryd.ntmps77
  go_wp2_with (first
   | ((with_reducible refine gate_dst (N := 6) rfl ?_); refine box_event ?hg (N := 6) ?hd (cs := #[.int .i64 0, .int .i64 0, .int .i64 0, .int .i64 0, .int .i64 0, .slice none 0 0, .slice none 0 0, .slice none 0 0]) (t := 110) ?hr ?_; (case hd => rfl); (case hg => rfl); (case hr => first | (go_simp; done) | (go_simp; rfl)); intro gr hggr w1 hA hb; have Kr1 := am hA; have R1 : Aside0 (RdAt g s a m w1) := ⟨blk_below H.out hb⟩; have F1 := am (Fr.of_below hb (fun k => k = g)); have NEr := am (show g ≠ gr by have := blk_lt H.out; omega); have GNr := am (show W.heap.size ≤ gr by omega); clear hggr hA hb)
   | ((with_reducible refine gate_dst (N := 7) rfl ?_); refine box_event ?hg (N := 7) ?hd (cs := #[.int .i64 0, .int .i64 0, .int .i64 0, .int .i64 0, .int .i64 0, .slice none 0 0, .slice none 0 0, .slice none 0 0]) (t := 110) ?hr ?_; (case hd => rfl); (case hg => rfl); (case hr => first | (go_simp; done) | (go_simp; rfl)); intro gi hggi w2 hA hb; have K2 := am hA; have Kr2 := am (blk_below Kr1.out hb); have R2 : Aside0 (RdAt g s a m w2) := ⟨blk_below R1.out hb⟩; have F2 := am (F1.out.below hb); have NEi := am (show g ≠ gi by have := blk_lt R1.out; omega); have NEir := am (show gr ≠ gi by have := blk_lt Kr1.out; omega); have GNi := am (show W.heap.size ≤ gi by have := F1.out.size; omega); clear hggi hA hb Kr1 R1 F1)
   | ((with_reducible refine gate_store (p := 7) rfl ?_); refine storeRow_event (g := gi) rfl rfl rfl (cs := #[.int .i64 op, .int .i64 0, .int .i64 0, .int .i64 0, .int .i64 0, .slice none 0 0, .slice none 0 0, .slice none 0 0]) rfl rfl K2.out (by kernel_rfl) rfl (by simp [Value.oneCell']) ?_; intro w3 hA hb ho hs; have K3 := am hA; have Kr3 := am ((ho gr NEir.out).trans Kr2.out); have R3 : Aside0 (RdAt g s a m w3) := ⟨(ho g NEi.out).trans R2.out⟩; have F3 := am (fr_new F2.out (Fr.stored (S := fun k => k = gi) hb ho hs rfl) GNi.out); clear hA hb ho hs K2 Kr2 R2 F2)
   | (go_at_call 75; (with_reducible refine (of_w hk _).mono ?_); rintro e w4 ⟨rfl, hb⟩; have K4 := am (blk_below K3.out hb); have Kr4 := am (blk_below Kr3.out hb); have R4 : Aside0 (RdAt g s a m w4) := ⟨blk_below R3.out hb⟩; have F4 := am (F3.out.below hb); have LI := am (blk_lt K4.out); have LR := am (blk_lt Kr4.out); have W4 := am F4.out.size; clear hb K3 Kr3 R3 F3)
   | (go_at_call 79; (with_reducible refine (as_er (u32r_c R4.out hs) HU.out).mono ?_); rintro e w9 ⟨rfl, g2⟩; have F9 := am (F4.out.then_ g2 (fun k hk => .inl hk)); clear g2))
  exact ⟨rfl, onePost_er rfl ⟨rfl, F9.out⟩⟩
 | ok p =>
  obtain ⟨x, a1⟩ := p
  have HU := am hu
  have HUr := am (pU32_ok hu)
  clear hu
  simp only []
  cases hu : pNought s a1 with
  | error c =>
   have HV := am hu
   clear hu
   simp only []
   go_enter Tryd.func77, Tryd.ntmps77
   go_wp2_with (first
    | ((with_reducible refine gate_dst (N := 6) rfl ?_); refine box_event ?hg (N := 6) ?hd (cs := #[.int .i64 0, .int .i64 0, .int .i64 0, .int .i64 0, .int .i64 0, .slice none 0 0, .slice none 0 0, .slice none 0 0]) (t := 110) ?hr ?_; (case hd => rfl); (case hg => rfl); (case hr => first | (go_simp; done) | (go_simp; rfl)); intro gr hggr w1 hA hb; have Kr1 := am hA; have R1 : Aside0 (RdAt g s a m w1) := ⟨blk_below H.out hb⟩; have F1 := am (Fr.of_below hb (fun k => k = g)); have NEr := am (show g ≠ gr by have := blk_lt H.out; omega); have GNr := am (show W.heap.size ≤ gr by omega); clear hggr hA hb)
    | ((with_reducible refine gate_dst (N := 7) rfl ?_); refine box_event ?hg (N := 7) ?hd (cs := #[.int .i64 0, .int .i64 0, .int .i64 0, .int .i64 0, .int .i64 0, .slice none 0 0, .slice none 0 0, .slice none 0 0]) (t := 110) ?hr ?_; (case hd => rfl); (case hg => rfl); (case hr => first | (go_simp; done) | (go_simp; rfl)); intro gi hggi w2 hA hb; have K2 := am hA; have Kr2 := am (blk_below Kr1.out hb); have R2 : Aside0 (RdAt g s a m w2) := ⟨blk_below R1.out hb⟩; have F2 := am (F1.out.below hb); have NEi := am (show g ≠ gi by have := blk_lt R1.out; omega); have NEir := am (show gr ≠ gi by have := blk_lt Kr1.out; omega); have GNi := am (show W.heap.size ≤ gi by have := F1.out.size; omega); clear hggi hA hb Kr1 R1 F1)
    | ((with_reducible refine gate_store (p := 7) rfl ?_); refine storeRow_event (g := gi) rfl rfl rfl (cs := #[.int .i64 op, .int .i64 0, .int .i64 0, .int .i64 0, .int .i64 0, .slice none 0 0, .slice none 0 0, .slice none 0 0]) rfl rfl K2.out (by kernel_rfl) rfl (by simp [Value.oneCell']) ?_; intro w3 hA hb ho hs; have K3 := am hA; have Kr3 := am ((ho gr NEir.out).trans Kr2.out); have R3 : Aside0 (RdAt g s a m w3) := ⟨(ho g NEi.out).trans R2.out⟩; have F3 := am (fr_new F2.out (Fr.stored (S := fun k => k = gi) hb ho hs rfl) GNi.out); clear hA hb ho hs K2 Kr2 R2 F2)
    | (go_at_call 75; (with_reducible refine (of_w hk _).mono ?_); rintro e w4 ⟨rfl, hb⟩; have K4 := am (blk_below K3.out hb); have Kr4 := am (blk_below Kr3.out hb); have R4 : Aside0 (RdAt g s a m w4) := ⟨blk_below R3.out hb⟩; have F4 := am (F3.out.below hb); have LI := am (blk_lt K4.out); have LR := am (blk_lt Kr4.out); have W4 := am F4.out.size; clear hb K3 Kr3 R3 F3)
    | (go_at_call 79; (with_reducible refine (as_ok (u32r_c R4.out hs) HU.out).mono ?_); rintro e w5 ⟨rfl, g1, g2⟩; have R5 := am g1; have K5 := am (g2.block K4.out (fun h => NEi.out h.symm)); have Kr5 := am (g2.block Kr4.out (fun h => NEr.out h.symm)); have F5 := am (F4.out.then_ g2 (fun k hk => .inl hk)); clear g1 g2 K4 Kr4 R4 F4)
    | ((with_reducible refine gate_store (p := 32) rfl ?_); refine storeCell_event (g := gi) (j := 1) (x := .int .i64 x) rfl rfl rfl rfl rfl K5.out (by simp) (by kernel_rfl) rfl ?_; intro w6 hA hb ho hs; have K6 : Aside0 (w6.heap[gi]? = some (.cells #[.int .i64 op, .int .i64 x, .int .i64 0, .int .i64 0, .int .i64 0, .slice none 0 0, .slice none 0 0, .slice none 0 0] 110 (0, 0))) := ⟨hA⟩; have Kr6 := am ((ho gr NEir.out).trans Kr5.out); have R6 := am (rd_keep R5.out (ho g NEi.out)); have F6 := am (fr_new F5.out (Fr.stored (S := fun k => k = gi) hb ho hs rfl) GNi.out); have y0 : w6.cell? ⟨gi, 0, none⟩ = some (.int .i64 op) := blk_cell K6.out 0; have y1 : w6.cell? ⟨gi, 1, none⟩ = some (.int .i64 x) := blk_cell K6.out 1; have y2 : w6.cell? ⟨gi, 2, none⟩ = some (.int .i64 0) := blk_cell K6.out 2; have y3 : w6.cell? ⟨gi, 3, none⟩ = some (.int .i64 0) := blk_cell K6.out 3; have y4 : w6.cell? ⟨gi, 4, none⟩ = some (.int .i64 0) := blk_cell K6.out 4; have y5 : w6.cell? ⟨gi, 5, none⟩ = some (.slice none 0 0) := blk_cell K6.out 5; have y6 : w6.cell? ⟨gi, 6, none⟩ = some (.slice none 0 0) := blk_cell K6.out 6; have y7 : w6.cell? ⟨gi, 7, none⟩ = some (.slice none 0 0) := blk_cell K6.out 7; clear hA hb ho hs K5 Kr5 R5 F5)
    | (go_at_call 81; (with_reducible refine (nil_er (nought_c R6.out (by have := HUr.out; omega) hs) HV.out).mono ?_); rintro e w9 ⟨rfl, g2⟩; have F9 := am (F6.out.then_ g2 (fun k hk => .inl hk)); clear g2))
   exact ⟨rfl, onePost_er rfl ⟨rfl, F9.out⟩⟩
  | ok a2 =>
   have HV := am hu
   have HVr := am (pNought_ok hu)
   clear hu
   simp only []
   go_enter Tryd.func77, Tryd.ntmps77
   go_wp2_with (first
    | ((with_reducible refine gate_dst (N := 6) rfl ?_); refine box_event ?hg (N := 6) ?hd (cs := #[.int .i64 0, .int .i64 0, .int .i64 0, .int .i64 0, .int .i64 0, .slice none 0 0, .slice none 0 0, .slice none 0 0]) (t := 110) ?hr ?_; (case hd => rfl); (case hg => rfl); (case hr => first | (go_simp; done) | (go_simp; rfl)); intro gr hggr w1 hA hb; have Kr1 := am hA; have R1 : Aside0 (RdAt g s a m w1) := ⟨blk_below H.out hb⟩; have F1 := am (Fr.of_below hb (fun k => k = g)); have NEr := am (show g ≠ gr by have := blk_lt H.out; omega); have GNr := am (show W.heap.size ≤ gr by omega); clear hggr hA hb)
    | ((with_reducible refine gate_dst (N := 7) rfl ?_); refine box_event ?hg (N := 7) ?hd (cs := #[.int .i64 0, .int .i64 0, .int .i64 0, .int .i64 0, .int .i64 0, .slice none 0 0, .slice none 0 0, .slice none 0 0]) (t := 110) ?hr ?_; (case hd => rfl); (case hg => rfl); (case hr => first | (go_simp; done) | (go_simp; rfl)); intro gi hggi w2 hA hb; have K2 := am hA; have Kr2 := am (blk_below Kr1.out hb); have R2 : Aside0 (RdAt g s a m w2) := ⟨blk_below R1.out hb⟩; have F2 := am (F1.out.below hb); have NEi := am (show g ≠ gi by have := blk_lt R1.out; omega); have NEir := am (show gr ≠ gi by have := blk_lt Kr1.out; omega); have GNi := am (show W.heap.size ≤ gi by have := F1.out.size; omega); clear hggi hA hb Kr1 R1 F1)
    | ((with_reducible refine gate_store (p := 7) rfl ?_); refine storeRow_event (g := gi) rfl rfl rfl (cs := #[.int .i64 op, .int .i64 0, .int .i64 0, .int .i64 0, .int .i64 0, .slice none 0 0, .slice none 0 0, .slice none 0 0]) rfl rfl K2.out (by kernel_rfl) rfl (by simp [Value.oneCell']) ?_; intro w3 hA hb ho hs; have K3 := am hA; have Kr3 := am ((ho gr NEir.out).trans Kr2.out); have R3 : Aside0 (RdAt g s a m w3) := ⟨(ho g NEi.out).trans R2.out⟩; have F3 := am (fr_new F2.out (Fr.stored (S := fun k => k = gi) hb ho hs rfl) GNi.out); clear hA hb ho hs K2 Kr2 R2 F2)
    | (go_at_call 75; (with_reducible refine (of_w hk _).mono ?_); rintro e w4 ⟨rfl, hb⟩; have K4 := am (blk_below K3.out hb); have Kr4 := am (blk_below Kr3.out hb); have R4 : Aside0 (RdAt g s a m w4) := ⟨blk_below R3.out hb⟩; have F4 := am (F3.out.below hb); have LI := am (blk_lt K4.out); have LR := am (blk_lt Kr4.out); have W4 := am F4.out.size; clear hb K3 Kr3 R3 F3)
    | (go_at_call 79; (with_reducible refine (as_ok (u32r_c R4.out hs) HU.out).mono ?_); rintro e w5 ⟨rfl, g1, g2⟩; have R5 := am g1; have K5 := am (g2.block K4.out (fun h => NEi.out h.symm)); have Kr5 := am (g2.block Kr4.out (fun h => NEr.out h.symm)); have F5 := am (F4.out.then_ g2 (fun k hk => .inl hk)); clear g1 g2 K4 Kr4 R4 F4)
    | ((with_reducible refine gate_store (p := 32) rfl ?_); refine storeCell_event (g := gi) (j := 1) (x := .int .i64 x) rfl rfl rfl rfl rfl K5.out (by simp) (by kernel_rfl) rfl ?_; intro w6 hA hb ho hs; have K6 : Aside0 (w6.heap[gi]? = some (.cells #[.int .i64 op, .int .i64 x, .int .i64 0, .int .i64 0, .int .i64 0, .slice none 0 0, .slice none 0 0, .slice none 0 0] 110 (0, 0))) := ⟨hA⟩; have Kr6 := am ((ho gr NEir.out).trans Kr5.out); have R6 := am (rd_keep R5.out (ho g NEi.out)); have F6 := am (fr_new F5.out (Fr.stored (S := fun k => k = gi) hb ho hs rfl) GNi.out); have y0 : w6.cell? ⟨gi, 0, none⟩ = some (.int .i64 op) := blk_cell K6.out 0; have y1 : w6.cell? ⟨gi, 1, none⟩ = some (.int .i64 x) := blk_cell K6.out 1; have y2 : w6.cell? ⟨gi, 2, none⟩ = some (.int .i64 0) := blk_cell K6.out 2; have y3 : w6.cell? ⟨gi, 3, none⟩ = some (.int .i64 0) := blk_cell K6.out 3; have y4 : w6.cell? ⟨gi, 4, none⟩ = some (.int .i64 0) := blk_cell K6.out 4; have y5 : w6.cell? ⟨gi, 5, none⟩ = some (.slice none 0 0) := blk_cell K6.out 5; have y6 : w6.cell? ⟨gi, 6, none⟩ = some (.slice none 0 0) := blk_cell K6.out 6; have y7 : w6.cell? ⟨gi, 7, none⟩ = some (.slice none 0 0) := blk_cell K6.out 7; clear hA hb ho hs K5 Kr5 R5 F5)
    | (go_at_call 81; (with_reducible refine (nil_ok (nought_c R6.out (by have := HUr.out; omega) hs) HV.out).mono ?_); rintro e w7 ⟨rfl, g1, g2⟩; have R7 := am g1; have K7 := am (g2.block K6.out (fun h => NEi.out h.symm)); have Kr7 := am (g2.block Kr6.out (fun h => NEr.out h.symm)); have F7 := am (F6.out.then_ g2 (fun k hk => .inl hk)); have y0 : w7.cell? ⟨gi, 0, none⟩ = some (.int .i64 op) := blk_cell K7.out 0; have y1 : w7.cell? ⟨gi, 1, none⟩ = some (.int .i64 x) := blk_cell K7.out 1; have y2 : w7.cell? ⟨gi, 2, none⟩ = some (.int .i64 0) := blk_cell K7.out 2; have y3 : w7.cell? ⟨gi, 3, none⟩ = some (.int .i64 0) := blk_cell K7.out 3; have y4 : w7.cell? ⟨gi, 4, none⟩ = some (.int .i64 0) := blk_cell K7.out 4; have y5 : w7.cell? ⟨gi, 5, none⟩ = some (.slice none 0 0) := blk_cell K7.out 5; have y6 : w7.cell? ⟨gi, 6, none⟩ = some (.slice none 0 0) := blk_cell K7.out 6; have y7 : w7.cell? ⟨gi, 7, none⟩ = some (.slice none 0 0) := blk_cell K7.out 7; clear g1 g2 K6 Kr6 R6 F6)
    | ((with_reducible refine gate_store (p := 6) rfl ?_); refine storeRow_event (g := gr) rfl rfl rfl (cs := #[.int .i64 op, .int .i64 x, .int .i64 0, .int .i64 0, .int .i64 0, .slice none 0 0, .slice none 0 0, .slice none 0 0]) rfl rfl Kr7.out (by kernel_rfl) rfl (by simp [Value.oneCell']) ?_; intro w8 hA hb ho hs; have Kr8 := am hA; have R8 := am (rd_keep R7.out (ho g NEr.out)); have F8 := am (fr_new F7.out (Fr.stored (S := fun k => k = gr) hb ho hs rfl) GNr.out); have q0 : w8.cell? ⟨gr, 0, none⟩ = some (.int .i64 op) := blk_cell Kr8.out 0; have q1 : w8.cell? ⟨gr, 1, none⟩ = some (.int .i64 x) := blk_cell Kr8.out 1; have q2 : w8.cell? ⟨gr, 2, none⟩ = some (.int .i64 0) := blk_cell Kr8.out 2; have q3 : w8.cell? ⟨gr, 3, none⟩ = some (.int .i64 0) := blk_cell Kr8.out 3; have q4 : w8.cell? ⟨gr, 4, none⟩ = some (.int .i64 0) := blk_cell Kr8.out 4; have q5 : w8.cell? ⟨gr, 5, none⟩ = some (.slice none 0 0) := blk_cell Kr8.out 5; have q6 : w8.cell? ⟨gr, 6, none⟩ = some (.slice none 0 0) := blk_cell Kr8.out 6; have q7 : w8.cell? ⟨gr, 7, none⟩ = some (.slice none 0 0) := blk_cell Kr8.out 7; clear hA hb ho hs Kr7 R7 F7))
   exact bodyPost_ret (v := .agg #[.int .i64 op, .int .i64 x, .int .i64 0, .int .i64 0, .int .i64 0, .slice none 0 0, .slice none 0 0, .slice none 0 0]) (by simp [results, Tryd.f77, go_sem, q0, q1, q2, q3, q4, q5, q6, q7]) rfl ⟨_, _, _, rfl, k110_mkM w8 0 _ ⟨op, x, 0, 0, 0, [], [], []⟩ (Kd.R_nil _ _ _ _ _) (Kd.R_nil _ _ _ _ _) (Kd.R_nil _ _ _ _ _), R8.out, F8.out⟩
set_option maxHeartbeats 4000000 in
set_option maxRecDepth 100000 in
theorem one_6 {s : ByteArray} {n : Nat} (hl : ListOk s n) (hs : s.size ≤ 140737488355328) {g : Nat} {op a m d : Int} {W : World} (h : RdAt g s a m W) (h0 : 0 ≤ a) (h1 : a ≤ s.size) (hf : (s.size : Int) - a < n) (hm0 : 0 ≤ m) (hm : m ≤ 8192) (hd0 : 0 ≤ d) (hd : d ≤ 33) (hk : ofF op = 6) :
  Calls Tryd.prog 77 #[.pointer (some ⟨g, 0, none⟩), .int .i64 op, .int .i64 d] W (OnePost g s W (pOne s (pList s n) op d a m)) := by
 have H := am h
 have P := am (show 0 ≤ a ∧ a ≤ s.size ∧ (s.size : Int) - a < n ∧ 0 ≤ m ∧ m ≤ 8192 ∧ 0 ≤ d ∧ d ≤ 33 by omega)
 clear h hf hm0 hm hd0 hd h0 h1
 unfold pOne
 rw [hk]
 simp only [if_false, if_true, Int.reduceEq, ↓reduceIte, reduceCtorEq]
 cases hu : pU32 s a with
 | error c =>
  have HU := am hu
  clear hu
  simp only []
  go_enter Tryd.func77, Tryd.ntmps77
  go_wp2_with (first
   | ((with_reducible refine gate_dst (N := 6) rfl ?_); refine box_event ?hg (N := 6) ?hd (cs := #[.int .i64 0, .int .i64 0, .int .i64 0, .int .i64 0, .int .i64 0, .slice none 0 0, .slice none 0 0, .slice none 0 0]) (t := 110) ?hr ?_; (case hd => rfl); (case hg => rfl); (case hr => first | (go_simp; done) | (go_simp; rfl)); intro gr hggr w1 hA hb; have Kr1 := am hA; have R1 : Aside0 (RdAt g s a m w1) := ⟨blk_below H.out hb⟩; have F1 := am (Fr.of_below hb (fun k => k = g)); have NEr := am (show g ≠ gr by have := blk_lt H.out; omega); have GNr := am (show W.heap.size ≤ gr by omega); clear hggr hA hb)
   | ((with_reducible refine gate_dst (N := 7) rfl ?_); refine box_event ?hg (N := 7) ?hd (cs := #[.int .i64 0, .int .i64 0, .int .i64 0, .int .i64 0, .int .i64 0, .slice none 0 0, .slice none 0 0, .slice none 0 0]) (t := 110) ?hr ?_; (case hd => rfl); (case hg => rfl); (case hr => first | (go_simp; done) | (go_simp; rfl)); intro gi hggi w2 hA hb; have K2 := am hA; have Kr2 := am (blk_below Kr1.out hb); have R2 : Aside0 (RdAt g s a m w2) := ⟨blk_below R1.out hb⟩; have F2 := am (F1.out.below hb); have NEi := am (show g ≠ gi by have := blk_lt R1.out; omega); have NEir := am (show gr ≠ gi by have := blk_lt Kr1.out; omega); have GNi := am (show W.heap.size ≤ gi by have := F1.out.size; omega); clear hggi hA hb Kr1 R1 F1)
   | ((with_reducible refine gate_store (p := 7) rfl ?_); refine storeRow_event (g := gi) rfl rfl rfl (cs := #[.int .i64 op, .int .i64 0, .int .i64 0, .int .i64 0, .int .i64 0, .slice none 0 0, .slice none 0 0, .slice none 0 0]) rfl rfl K2.out (by kernel_rfl) rfl (by simp [Value.oneCell']) ?_; intro w3 hA hb ho hs; have K3 := am hA; have Kr3 := am ((ho gr NEir.out).trans Kr2.out); have R3 : Aside0 (RdAt g s a m w3) := ⟨(ho g NEi.out).trans R2.out⟩; have F3 := am (fr_new F2.out (Fr.stored (S := fun k => k = gi) hb ho hs rfl) GNi.out); clear hA hb ho hs K2 Kr2 R2 F2)
   | (go_at_call 75; (with_reducible refine (of_w hk _).mono ?_); rintro e w4 ⟨rfl, hb⟩; have K4 := am (blk_below K3.out hb); have Kr4 := am (blk_below Kr3.out hb); have R4 : Aside0 (RdAt g s a m w4) := ⟨blk_below R3.out hb⟩; have F4 := am (F3.out.below hb); have LI := am (blk_lt K4.out); have LR := am (blk_lt Kr4.out); have W4 := am F4.out.size; clear hb K3 Kr3 R3 F3)
   | (go_at_call 79; (with_reducible refine (as_er (u32r_c R4.out hs) HU.out).mono ?_); rintro e w9 ⟨rfl, g2⟩; have F9 := am (F4.out.then_ g2 (fun k hk => .inl hk)); clear g2))
  exact ⟨rfl, onePost_er rfl ⟨rfl, F9.out⟩⟩
 | ok p =>
  obtain ⟨x, a1⟩ := p
  have HU := am hu
  have HUr := am (pU32_ok hu)
  clear hu
  simp only []
  cases hu : pU32 s a1 with
  | error c =>
   have HV := am hu
   clear hu
   simp only []
   go_enter Tryd.func77, Tryd.ntmps77
   go_wp2_with (first
    | ((with_reducible refine gate_dst (N := 6) rfl ?_); refine box_event ?hg (N := 6) ?hd (cs := #[.int .i64 0, .int .i64 0, .int .i64 0, .int .i64 0, .int .i64 0, .slice none 0 0, .slice none 0 0, .slice none 0 0]) (t := 110) ?hr ?_; (case hd => rfl); (case hg => rfl); (case hr => first | (go_simp; done) | (go_simp; rfl)); intro gr hggr w1 hA hb; have Kr1 := am hA; have R1 : Aside0 (RdAt g s a m w1) := ⟨blk_below H.out hb⟩; have F1 := am (Fr.of_below hb (fun k => k = g)); have NEr := am (show g ≠ gr by have := blk_lt H.out; omega); have GNr := am (show W.heap.size ≤ gr by omega); clear hggr hA hb)
    | ((with_reducible refine gate_dst (N := 7) rfl ?_); refine box_event ?hg (N := 7) ?hd (cs := #[.int .i64 0, .int .i64 0, .int .i64 0, .int .i64 0, .int .i64 0, .slice none 0 0, .slice none 0 0, .slice none 0 0]) (t := 110) ?hr ?_; (case hd => rfl); (case hg => rfl); (case hr => first | (go_simp; done) | (go_simp; rfl)); intro gi hggi w2 hA hb; have K2 := am hA; have Kr2 := am (blk_below Kr1.out hb); have R2 : Aside0 (RdAt g s a m w2) := ⟨blk_below R1.out hb⟩; have F2 := am (F1.out.below hb); have NEi := am (show g ≠ gi by have := blk_lt R1.out; omega); have NEir := am (show gr ≠ gi by have := blk_lt Kr1.out; omega); have GNi := am (show W.heap.size ≤ gi by have := F1.out.size; omega); clear hggi hA hb Kr1 R1 F1)
    | ((with_reducible refine gate_store (p := 7) rfl ?_); refine storeRow_event (g := gi) rfl rfl rfl (cs := #[.int .i64 op, .int .i64 0, .int .i64 0, .int .i64 0, .int .i64 0, .slice none 0 0, .slice none 0 0, .slice none 0 0]) rfl rfl K2.out (by kernel_rfl) rfl (by simp [Value.oneCell']) ?_; intro w3 hA hb ho hs; have K3 := am hA; have Kr3 := am ((ho gr NEir.out).trans Kr2.out); have R3 : Aside0 (RdAt g s a m w3) := ⟨(ho g NEi.out).trans R2.out⟩; have F3 := am (fr_new F2.out (Fr.stored (S := fun k => k = gi) hb ho hs rfl) GNi.out); clear hA hb ho hs K2 Kr2 R2 F2)
    | (go_at_call 75; (with_reducible refine (of_w hk _).mono ?_); rintro e w4 ⟨rfl, hb⟩; have K4 := am (blk_below K3.out hb); have Kr4 := am (blk_below Kr3.out hb); have R4 : Aside0 (RdAt g s a m w4) := ⟨blk_below R3.out hb⟩; have F4 := am (F3.out.below hb); have LI := am (blk_lt K4.out); have LR := am (blk_lt Kr4.out); have W4 := am F4.out.size; clear hb K3 Kr3 R3 F3)
    | (go_at_call 79; (with_reducible refine (as_er (u32r_c R6.out hs) HV.out).mono ?_); rintro e w9 ⟨rfl, g2⟩; have F9 := am (F6.out.then_ g2 (fun k hk => .inl hk)); clear g2)
    | (go_at_call 79; (with_reducible refine (as_ok (u32r_c R4.out hs) HU.out).mono ?_); rintro e w5 ⟨rfl, g1, g2⟩; have R5 := am g1; have K5 := am (g2.block K4.out (fun h => NEi.out h.symm)); have Kr5 := am (g2.block Kr4.out (fun h => NEr.out h.symm)); have F5 := am (F4.out.then_ g2 (fun k hk => .inl hk));have T1 := am True.intro; clear g1 g2 K4 Kr4 R4 F4)
    | ((with_reducible refine gate_store (p := 39) rfl ?_); refine storeCell_event (g := gi) (j := 1) (x := .int .i64 x) rfl rfl rfl rfl rfl K5.out (by simp) (by kernel_rfl) rfl ?_; intro w6 hA hb ho hs; have K6 : Aside0 (w6.heap[gi]? = some (.cells #[.int .i64 op, .int .i64 x, .int .i64 0, .int .i64 0, .int .i64 0, .slice none 0 0, .slice none 0 0, .slice none 0 0] 110 (0, 0))) := ⟨hA⟩; have Kr6 := am ((ho gr NEir.out).trans Kr5.out); have R6 := am (rd_keep R5.out (ho g NEi.out)); have F6 := am (fr_new F5.out (Fr.stored (S := fun k => k = gi) hb ho hs rfl) GNi.out); have y0 : w6.cell? ⟨gi, 0, none⟩ = some (.int .i64 op) := blk_cell K6.out 0; have y1 : w6.cell? ⟨gi, 1, none⟩ = some (.int .i64 x) := blk_cell K6.out 1; have y2 : w6.cell? ⟨gi, 2, none⟩ = some (.int .i64 0) := blk_cell K6.out 2; have y3 : w6.cell? ⟨gi, 3, none⟩ = some (.int .i64 0) := blk_cell K6.out 3; have y4 : w6.cell? ⟨gi, 4, none⟩ = some (.int .i64 0) := blk_cell K6.out 4; have y5 : w6.cell? ⟨gi, 5, none⟩ = some (.slice none 0 0) := blk_cell K6.out 5; have y6 : w6.cell? ⟨gi, 6, none⟩ = some (.slice none 0 0) := blk_cell K6.out 6; have y7 : w6.cell? ⟨gi, 7, none⟩ = some (.slice none 0 0) := blk_cell K6.out 7; clear hA hb ho hs K5 Kr5 R5 F5))
   exact ⟨rfl, onePost_er rfl ⟨rfl, F9.out⟩⟩
  | ok p =>
   obtain ⟨y, a2⟩ := p
   have HV := am hu
   have HVr := am (pU32_ok hu)
   clear hu
   simp only []
   go_enter Tryd.func77, Tryd.ntmps77
   go_wp2_with (first
    | ((with_reducible refine gate_dst (N := 6) rfl ?_); refine box_event ?hg (N := 6) ?hd (cs := #[.int .i64 0, .int .i64 0, .int .i64 0, .int .i64 0, .int .i64 0, .slice none 0 0, .slice none 0 0, .slice none 0 0]) (t := 110) ?hr ?_; (case hd => rfl); (case hg => rfl); (case hr => first | (go_simp; done) | (go_simp; rfl)); intro gr hggr w1 hA hb; have Kr1 := am hA; have R1 : Aside0 (RdAt g s a m w1) := ⟨blk_below H.out hb⟩; have F1 := am (Fr.of_below hb (fun k => k = g)); have NEr := am (show g ≠ gr by have := blk_lt H.out; omega); have GNr := am (show W.heap.size ≤ gr by omega); clear hggr hA hb)
    | ((with_reducible refine gate_dst (N := 7) rfl ?_); refine box_event ?hg (N := 7) ?hd (cs := #[.int .i64 0, .int .i64 0, .int .i64 0, .int .i64 0, .int .i64 0, .slice none 0 0, .slice none 0 0, .slice none 0 0]) (t := 110) ?hr ?_; (case hd => rfl); (case hg => rfl); (case hr => first | (go_simp; done) | (go_simp; rfl)); intro gi hggi w2 hA hb; have K2 := am hA; have Kr2 := am (blk_below Kr1.out hb); have R2 : Aside0 (RdAt g s a m w2) := ⟨blk_below R1.out hb⟩; have F2 := am (F1.out.below hb); have NEi := am (show g ≠ gi by have := blk_lt R1.out; omega); have NEir := am (show gr ≠ gi by have := blk_lt Kr1.out; omega); have GNi := am (show W.heap.size ≤ gi by have := F1.out.size; omega); clear hggi hA hb Kr1 R1 F1)
    | ((with_reducible refine gate_store (p := 7) rfl ?_); refine storeRow_event (g := gi) rfl rfl rfl (cs := #[.int .i64 op, .int .i64 0, .int .i64 0, .int .i64 0, .int .i64 0, .slice none 0 0, .slice none 0 0, .slice none 0 0]) rfl rfl K2.out (by kernel_rfl) rfl (by simp [Value.oneCell']) ?_; intro w3 hA hb ho hs; have K3 := am hA; have Kr3 := am ((ho gr NEir.out).trans Kr2.out); have R3 : Aside0 (RdAt g s a m w3) := ⟨(ho g NEi.out).trans R2.out⟩; have F3 := am (fr_new F2.out (Fr.stored (S := fun k => k = gi) hb ho hs rfl) GNi.out); clear hA hb ho hs K2 Kr2 R2 F2)
    | (go_at_call 75; (with_reducible refine (of_w hk _).mono ?_); rintro e w4 ⟨rfl, hb⟩; have K4 := am (blk_below K3.out hb); have Kr4 := am (blk_below Kr3.out hb); have R4 : Aside0 (RdAt g s a m w4) := ⟨blk_below R3.out hb⟩; have F4 := am (F3.out.below hb); have LI := am (blk_lt K4.out); have LR := am (blk_lt Kr4.out); have W4 := am F4.out.size; clear hb K3 Kr3 R3 F3)
    | (go_at_call 79; (with_reducible refine (as_ok (u32r_c R6.out hs) HV.out).mono ?_); rintro e w7 ⟨rfl, g1, g2⟩; have R7 := am g1; have K7 := am (g2.block K6.out (fun h => NEi.out h.symm)); have Kr7 := am (g2.block Kr6.out (fun h => NEr.out h.symm)); have F7 := am (F6.out.then_ g2 (fun k hk => .inl hk)); clear g1 g2 K6 Kr6 R6 F6)
    | (go_at_call 79; (with_reducible refine (as_ok (u32r_c R4.out hs) HU.out).mono ?_); rintro e w5 ⟨rfl, g1, g2⟩; have R5 := am g1; have K5 := am (g2.block K4.out (fun h => NEi.out h.symm)); have Kr5 := am (g2.block Kr4.out (fun h => NEr.out h.symm)); have F5 := am (F4.out.then_ g2 (fun k hk => .inl hk));have T1 := am True.intro; clear g1 g2 K4 Kr4 R4 F4)
    | ((with_reducible refine gate_store (p := 39) rfl ?_); refine storeCell_event (g := gi) (j := 1) (x := .int .i64 x) rfl rfl rfl rfl rfl K5.out (by simp) (by kernel_rfl) rfl ?_; intro w6 hA hb ho hs; have K6 : Aside0 (w6.heap[gi]? = some (.cells #[.int .i64 op, .int .i64 x, .int .i64 0, .int .i64 0, .int .i64 0, .slice none 0 0, .slice none 0 0, .slice none 0 0] 110 (0, 0))) := ⟨hA⟩; have Kr6 := am ((ho gr NEir.out).trans Kr5.out); have R6 := am (rd_keep R5.out (ho g NEi.out)); have F6 := am (fr_new F5.out (Fr.stored (S := fun k => k = gi) hb ho hs rfl) GNi.out); have y0 : w6.cell? ⟨gi, 0, none⟩ = some (.int .i64 op) := blk_cell K6.out 0; have y1 : w6.cell? ⟨gi, 1, none⟩ = some (.int .i64 x) := blk_cell K6.out 1; have y2 : w6.cell? ⟨gi, 2, none⟩ = some (.int .i64 0) := blk_cell K6.out 2; have y3 : w6.cell? ⟨gi, 3, none⟩ = some (.int .i64 0) := blk_cell K6.out 3; have y4 : w6.cell? ⟨gi, 4, none⟩ = some (.int .i64 0) := blk_cell K6.out 4; have y5 : w6.cell? ⟨gi, 5, none⟩ = some (.slice none 0 0) := blk_cell K6.out 5; have y6 : w6.cell? ⟨gi, 6, none⟩ = some (.slice none 0 0) := blk_cell K6.out 6; have y7 : w6.cell? ⟨gi, 7, none⟩ = some (.slice none 0 0) := blk_cell K6.out 7; clear hA hb ho hs K5 Kr5 R5 F5)
    | ((with_reducible refine gate_store (p := 42) rfl ?_); refine storeCell_event (g := gi) (j := 2) (x := .int .i64 y) rfl rfl rfl rfl rfl K7.out (by simp) (by kernel_rfl) rfl ?_; intro w8 hA hb ho hs; have K8 : Aside0 (w8.heap[gi]? = some (.cells #[.int .i64 op, .int .i64 x, .int .i64 y, .int .i64 0, .int .i64 0, .slice none 0 0, .slice none 0 0, .slice none 0 0] 110 (0, 0))) := ⟨hA⟩; have Kr8 := am ((ho gr NEir.out).trans Kr7.out); have R8 := am (rd_keep R7.out (ho g NEi.out)); have F8 := am (fr_new F7.out (Fr.stored (S := fun k => k = gi) hb ho hs rfl) GNi.out); have y0 : w8.cell? ⟨gi, 0, none⟩ = some (.int .i64 op) := blk_cell K8.out 0; have y1 : w8.cell? ⟨gi, 1, none⟩ = some (.int .i64 x) := blk_cell K8.out 1; have y2 : w8.cell? ⟨gi, 2, none⟩ = some (.int .i64 y) := blk_cell K8.out 2; have y3 : w8.cell? ⟨gi, 3, none⟩ = some (.int .i64 0) := blk_cell K8.out 3; have y4 : w8.cell? ⟨gi, 4, none⟩ = some (.int .i64 0) := blk_cell K8.out 4; have y5 : w8.cell? ⟨gi, 5, none⟩ = some (.slice none 0 0) := blk_cell K8.out 5; have y6 : w8.cell? ⟨gi, 6, none⟩ = some (.slice none 0 0) := blk_cell K8.out 6; have y7 : w8.cell? ⟨gi, 7, none⟩ = some (.slice none 0 0) := blk_cell K8.out 7; clear hA hb ho hs K7 Kr7 R7 F7)
    | ((with_reducible refine gate_store (p := 6) rfl ?_); refine storeRow_event (g := gr) rfl rfl rfl (cs := #[.int .i64 op, .int .i64 x, .int .i64 y, .int .i64 0, .int .i64 0, .slice none 0 0, .slice none 0 0, .slice none 0 0]) rfl rfl Kr8.out (by kernel_rfl) rfl (by simp [Value.oneCell']) ?_; intro w9 hA hb ho hs; have Kr9 := am hA; have R9 := am (rd_keep R8.out (ho g NEr.out)); have F9 := am (fr_new F8.out (Fr.stored (S := fun k => k = gr) hb ho hs rfl) GNr.out); have q0 : w9.cell? ⟨gr, 0, none⟩ = some (.int .i64 op) := blk_cell Kr9.out 0; have q1 : w9.cell? ⟨gr, 1, none⟩ = some (.int .i64 x) := blk_cell Kr9.out 1; have q2 : w9.cell? ⟨gr, 2, none⟩ = some (.int .i64 y) := blk_cell Kr9.out 2; have q3 : w9.cell? ⟨gr, 3, none⟩ = some (.int .i64 0) := blk_cell Kr9.out 3; have q4 : w9.cell? ⟨gr, 4, none⟩ = some (.int .i64 0) := blk_cell Kr9.out 4; have q5 : w9.cell? ⟨gr, 5, none⟩ = some (.slice none 0 0) := blk_cell Kr9.out 5; have q6 : w9.cell? ⟨gr, 6, none⟩ = some (.slice none 0 0) := blk_cell Kr9.out 6; have q7 : w9.cell? ⟨gr, 7, none⟩ = some (.slice none 0 0) := blk_cell Kr9.out 7; clear hA hb ho hs Kr8 R8 F8))
   exact bodyPost_ret (v := .agg #[.int .i64 op, .int .i64 x, .int .i64 y, .int .i64 0, .int .i64 0, .slice none 0 0, .slice none 0 0, .slice none 0 0]) (by simp [results, Tryd.f77, go_sem, q0, q1, q2, q3, q4, q5, q6, q7]) rfl ⟨_, _, _, rfl, k110_mkM w9 0 _ ⟨op, x, y, 0, 0, [], [], []⟩ (Kd.R_nil _ _ _ _ _) (Kd.R_nil _ _ _ _ _) (Kd.R_nil _ _ _ _ _), R9.out, F9.out⟩
set_option maxHeartbeats 4000000 in
set_option maxRecDepth 100000 in
theorem one_7 {s : ByteArray} {n : Nat} (hl : ListOk s n) (hs : s.size ≤ 140737488355328) {g : Nat} {op a m d : Int} {W : World} (h : RdAt g s a m W) (h0 : 0 ≤ a) (h1 : a ≤ s.size) (hf : (s.size : Int) - a < n) (hm0 : 0 ≤ m) (hm : m ≤ 8192) (hd0 : 0 ≤ d) (hd : d ≤ 33) (hk : ofF op = 7) :
  Calls Tryd.prog 77 #[.pointer (some ⟨g, 0, none⟩), .int .i64 op, .int .i64 d] W (OnePost g s W (pOne s (pList s n) op d a m)) := by
 have H := am h
 have P := am (show 0 ≤ a ∧ a ≤ s.size ∧ (s.size : Int) - a < n ∧ 0 ≤ m ∧ m ≤ 8192 ∧ 0 ≤ d ∧ d ≤ 33 by omega)
 clear h hf hm0 hm hd0 hd h0 h1
 unfold pOne
 rw [hk]
 simp only [if_false, if_true, Int.reduceEq, ↓reduceIte, reduceCtorEq]
 cases hu : pNought s a with
 | error c =>
  have HU := am hu
  clear hu
  simp only []
  go_enter Tryd.func77, Tryd.ntmps77
  go_wp2_with (first
   | ((with_reducible refine gate_dst (N := 6) rfl ?_); refine box_event ?hg (N := 6) ?hd (cs := #[.int .i64 0, .int .i64 0, .int .i64 0, .int .i64 0, .int .i64 0, .slice none 0 0, .slice none 0 0, .slice none 0 0]) (t := 110) ?hr ?_; (case hd => rfl); (case hg => rfl); (case hr => first | (go_simp; done) | (go_simp; rfl)); intro gr hggr w1 hA hb; have Kr1 := am hA; have R1 : Aside0 (RdAt g s a m w1) := ⟨blk_below H.out hb⟩; have F1 := am (Fr.of_below hb (fun k => k = g)); have NEr := am (show g ≠ gr by have := blk_lt H.out; omega); have GNr := am (show W.heap.size ≤ gr by omega); clear hggr hA hb)
   | ((with_reducible refine gate_dst (N := 7) rfl ?_); refine box_event ?hg (N := 7) ?hd (cs := #[.int .i64 0, .int .i64 0, .int .i64 0, .int .i64 0, .int .i64 0, .slice none 0 0, .slice none 0 0, .slice none 0 0]) (t := 110) ?hr ?_; (case hd => rfl); (case hg => rfl); (case hr => first | (go_simp; done) | (go_simp; rfl)); intro gi hggi w2 hA hb; have K2 := am hA; have Kr2 := am (blk_below Kr1.out hb); have R2 : Aside0 (RdAt g s a m w2) := ⟨blk_below R1.out hb⟩; have F2 := am (F1.out.below hb); have NEi := am (show g ≠ gi by have := blk_lt R1.out; omega); have NEir := am (show gr ≠ gi by have := blk_lt Kr1.out; omega); have GNi := am (show W.heap.size ≤ gi by have := F1.out.size; omega); clear hggi hA hb Kr1 R1 F1)
   | ((with_reducible refine gate_store (p := 7) rfl ?_); refine storeRow_event (g := gi) rfl rfl rfl (cs := #[.int .i64 op, .int .i64 0, .int .i64 0, .int .i64 0, .int .i64 0, .slice none 0 0, .slice none 0 0, .slice none 0 0]) rfl rfl K2.out (by kernel_rfl) rfl (by simp [Value.oneCell']) ?_; intro w3 hA hb ho hs; have K3 := am hA; have Kr3 := am ((ho gr NEir.out).trans Kr2.out); have R3 : Aside0 (RdAt g s a m w3) := ⟨(ho g NEi.out).trans R2.out⟩; have F3 := am (fr_new F2.out (Fr.stored (S := fun k => k = gi) hb ho hs rfl) GNi.out); clear hA hb ho hs K2 Kr2 R2 F2)
   | (go_at_call 75; (with_reducible refine (of_w hk _).mono ?_); rintro e w4 ⟨rfl, hb⟩; have K4 := am (blk_below K3.out hb); have Kr4 := am (blk_below Kr3.out hb); have R4 : Aside0 (RdAt g s a m w4) := ⟨blk_below R3.out hb⟩; have F4 := am (F3.out.below hb); have LI := am (blk_lt K4.out); have LR := am (blk_lt Kr4.out); have W4 := am F4.out.size; clear hb K3 Kr3 R3 F3)
   | (go_at_call 81; (with_reducible refine (nil_er (nought_c R4.out P.out.1 hs) HU.out).mono ?_); rintro e w9 ⟨rfl, g2⟩; have F9 := am (F4.out.then_ g2 (fun k hk => .inl hk)); clear g2))
  exact ⟨rfl, onePost_er rfl ⟨rfl, F9.out⟩⟩
 | ok a2 =>
  have HU := am hu
  have HUr := am (pNought_ok hu)
  clear hu
  simp only []
  go_enter Tryd.func77, Tryd.ntmps77
  go_wp2_with (first
   | ((with_reducible refine gate_dst (N := 6) rfl ?_); refine box_event ?hg (N := 6) ?hd (cs := #[.int .i64 0, .int .i64 0, .int .i64 0, .int .i64 0, .int .i64 0, .slice none 0 0, .slice none 0 0, .slice none 0 0]) (t := 110) ?hr ?_; (case hd => rfl); (case hg => rfl); (case hr => first | (go_simp; done) | (go_simp; rfl)); intro gr hggr w1 hA hb; have Kr1 := am hA; have R1 : Aside0 (RdAt g s a m w1) := ⟨blk_below H.out hb⟩; have F1 := am (Fr.of_below hb (fun k => k = g)); have NEr := am (show g ≠ gr by have := blk_lt H.out; omega); have GNr := am (show W.heap.size ≤ gr by omega); clear hggr hA hb)
   | ((with_reducible refine gate_dst (N := 7) rfl ?_); refine box_event ?hg (N := 7) ?hd (cs := #[.int .i64 0, .int .i64 0, .int .i64 0, .int .i64 0, .int .i64 0, .slice none 0 0, .slice none 0 0, .slice none 0 0]) (t := 110) ?hr ?_; (case hd => rfl); (case hg => rfl); (case hr => first | (go_simp; done) | (go_simp; rfl)); intro gi hggi w2 hA hb; have K2 := am hA; have Kr2 := am (blk_below Kr1.out hb); have R2 : Aside0 (RdAt g s a m w2) := ⟨blk_below R1.out hb⟩; have F2 := am (F1.out.below hb); have NEi := am (show g ≠ gi by have := blk_lt R1.out; omega); have NEir := am (show gr ≠ gi by have := blk_lt Kr1.out; omega); have GNi := am (show W.heap.size ≤ gi by have := F1.out.size; omega); clear hggi hA hb Kr1 R1 F1)
   | ((with_reducible refine gate_store (p := 7) rfl ?_); refine storeRow_event (g := gi) rfl rfl rfl (cs := #[.int .i64 op, .int .i64 0, .int .i64 0, .int .i64 0, .int .i64 0, .slice none 0 0, .slice none 0 0, .slice none 0 0]) rfl rfl K2.out (by kernel_rfl) rfl (by simp [Value.oneCell']) ?_; intro w3 hA hb ho hs; have K3 := am hA; have Kr3 := am ((ho gr NEir.out).trans Kr2.out); have R3 : Aside0 (RdAt g s a m w3) := ⟨(ho g NEi.out).trans R2.out⟩; have F3 := am (fr_new F2.out (Fr.stored (S := fun k => k = gi) hb ho hs rfl) GNi.out); clear hA hb ho hs K2 Kr2 R2 F2)
   | (go_at_call 75; (with_reducible refine (of_w hk _).mono ?_); rintro e w4 ⟨rfl, hb⟩; have K4 := am (blk_below K3.out hb); have Kr4 := am (blk_below Kr3.out hb); have R4 : Aside0 (RdAt g s a m w4) := ⟨blk_below R3.out hb⟩; have F4 := am (F3.out.below hb); have LI := am (blk_lt K4.out); have LR := am (blk_lt Kr4.out); have W4 := am F4.out.size; clear hb K3 Kr3 R3 F3)
   | (go_at_call 81; (with_reducible refine (nil_ok (nought_c R4.out P.out.1 hs) HU.out).mono ?_); rintro e w5 ⟨rfl, g1, g2⟩; have R5 := am g1; have K5 := am (g2.block K4.out (fun h => NEi.out h.symm)); have Kr5 := am (g2.block Kr4.out (fun h => NEr.out h.symm)); have F5 := am (F4.out.then_ g2 (fun k hk => .inl hk)); have y0 : w5.cell? ⟨gi, 0, none⟩ = some (.int .i64 op) := blk_cell K5.out 0; have y1 : w5.cell? ⟨gi, 1, none⟩ = some (.int .i64 0) := blk_cell K5.out 1; have y2 : w5.cell? ⟨gi, 2, none⟩ = some (.int .i64 0) := blk_cell K5.out 2; have y3 : w5.cell? ⟨gi, 3, none⟩ = some (.int .i64 0) := blk_cell K5.out 3; have y4 : w5.cell? ⟨gi, 4, none⟩ = some (.int .i64 0) := blk_cell K5.out 4; have y5 : w5.cell? ⟨gi, 5, none⟩ = some (.slice none 0 0) := blk_cell K5.out 5; have y6 : w5.cell? ⟨gi, 6, none⟩ = some (.slice none 0 0) := blk_cell K5.out 6; have y7 : w5.cell? ⟨gi, 7, none⟩ = some (.slice none 0 0) := blk_cell K5.out 7; clear g1 g2 K4 Kr4 R4 F4)
   | ((with_reducible refine gate_store (p := 6) rfl ?_); refine storeRow_event (g := gr) rfl rfl rfl (cs := #[.int .i64 op, .int .i64 0, .int .i64 0, .int .i64 0, .int .i64 0, .slice none 0 0, .slice none 0 0, .slice none 0 0]) rfl rfl Kr5.out (by kernel_rfl) rfl (by simp [Value.oneCell']) ?_; intro w6 hA hb ho hs; have Kr6 := am hA; have R6 := am (rd_keep R5.out (ho g NEr.out)); have F6 := am (fr_new F5.out (Fr.stored (S := fun k => k = gr) hb ho hs rfl) GNr.out); have q0 : w6.cell? ⟨gr, 0, none⟩ = some (.int .i64 op) := blk_cell Kr6.out 0; have q1 : w6.cell? ⟨gr, 1, none⟩ = some (.int .i64 0) := blk_cell Kr6.out 1; have q2 : w6.cell? ⟨gr, 2, none⟩ = some (.int .i64 0) := blk_cell Kr6.out 2; have q3 : w6.cell? ⟨gr, 3, none⟩ = some (.int .i64 0) := blk_cell Kr6.out 3; have q4 : w6.cell? ⟨gr, 4, none⟩ = some (.int .i64 0) := blk_cell Kr6.out 4; have q5 : w6.cell? ⟨gr, 5, none⟩ = some (.slice none 0 0) := blk_cell Kr6.out 5; have q6 : w6.cell? ⟨gr, 6, none⟩ = some (.slice none 0 0) := blk_cell Kr6.out 6; have q7 : w6.cell? ⟨gr, 7, none⟩ = some (.slice none 0 0) := blk_cell Kr6.out 7; clear hA hb ho hs Kr5 R5 F5))
  exact bodyPost_ret (v := .agg #[.int .i64 op, .int .i64 0, .int .i64 0, .int .i64 0, .int .i64 0, .slice none 0 0, .slice none 0 0, .slice none 0 0]) (by simp [results, Tryd.f77, go_sem, q0, q1, q2, q3, q4, q5, q6, q7]) rfl ⟨_, _, _, rfl, k110_mkM w6 0 _ ⟨op, 0, 0, 0, 0, [], [], []⟩ (Kd.R_nil _ _ _ _ _) (Kd.R_nil _ _ _ _ _) (Kd.R_nil _ _ _ _ _), R6.out, F6.out⟩
set_option maxHeartbeats 4000000 in
set_option maxRecDepth 100000 in
theorem one_8 {s : ByteArray} {n : Nat} (hl : ListOk s n) (hs : s.size ≤ 140737488355328) {g : Nat} {op a m d : Int} {W : World} (h : RdAt g s a m W) (h0 : 0 ≤ a) (h1 : a ≤ s.size) (hf : (s.size : Int) - a < n) (hm0 : 0 ≤ m) (hm : m ≤ 8192) (hd0 : 0 ≤ d) (hd : d ≤ 33) (hk : ofF op = 8) :
  Calls Tryd.prog 77 #[.pointer (some ⟨g, 0, none⟩), .int .i64 op, .int .i64 d] W (OnePost g s W (pOne s (pList s n) op d a m)) := by
 have H := am h
 have P := am (show 0 ≤ a ∧ a ≤ s.size ∧ (s.size : Int) - a < n ∧ 0 ≤ m ∧ m ≤ 8192 ∧ 0 ≤ d ∧ d ≤ 33 by omega)
 clear h hf hm0 hm hd0 hd h0 h1
 unfold pOne
 rw [hk]
 simp only [if_false, if_true, Int.reduceEq, ↓reduceIte, reduceCtorEq]
 cases hw : wideB op with
 | true =>
  simp only [if_true, reduceIte]
  cases hu : pNum (GS s a 64) with
  | error c =>
   have HU := am hu
   clear hu
   simp only [oneI]
   go_enter Tryd.func77, Tryd.ntmps77
   go_wp2_with (first
    | ((with_reducible refine gate_dst (N := 6) rfl ?_); refine box_event ?hg (N := 6) ?hd (cs := #[.int .i64 0, .int .i64 0, .int .i64 0, .int .i64 0, .int .i64 0, .slice none 0 0, .slice none 0 0, .slice none 0 0]) (t := 110) ?hr ?_; (case hd => rfl); (case hg => rfl); (case hr => first | (go_simp; done) | (go_simp; rfl)); intro gr hggr w1 hA hb; have Kr1 := am hA; have R1 : Aside0 (RdAt g s a m w1) := ⟨blk_below H.out hb⟩; have F1 := am (Fr.of_below hb (fun k => k = g)); have NEr := am (show g ≠ gr by have := blk_lt H.out; omega); have GNr := am (show W.heap.size ≤ gr by omega); clear hggr hA hb)
    | ((with_reducible refine gate_dst (N := 7) rfl ?_); refine box_event ?hg (N := 7) ?hd (cs := #[.int .i64 0, .int .i64 0, .int .i64 0, .int .i64 0, .int .i64 0, .slice none 0 0, .slice none 0 0, .slice none 0 0]) (t := 110) ?hr ?_; (case hd => rfl); (case hg => rfl); (case hr => first | (go_simp; done) | (go_simp; rfl)); intro gi hggi w2 hA hb; have K2 := am hA; have Kr2 := am (blk_below Kr1.out hb); have R2 : Aside0 (RdAt g s a m w2) := ⟨blk_below R1.out hb⟩; have F2 := am (F1.out.below hb); have NEi := am (show g ≠ gi by have := blk_lt R1.out; omega); have NEir := am (show gr ≠ gi by have := blk_lt Kr1.out; omega); have GNi := am (show W.heap.size ≤ gi by have := F1.out.size; omega); clear hggi hA hb Kr1 R1 F1)
    | ((with_reducible refine gate_store (p := 7) rfl ?_); refine storeRow_event (g := gi) rfl rfl rfl (cs := #[.int .i64 op, .int .i64 0, .int .i64 0, .int .i64 0, .int .i64 0, .slice none 0 0, .slice none 0 0, .slice none 0 0]) rfl rfl K2.out (by kernel_rfl) rfl (by simp [Value.oneCell']) ?_; intro w3 hA hb ho hs; have K3 := am hA; have Kr3 := am ((ho gr NEir.out).trans Kr2.out); have R3 : Aside0 (RdAt g s a m w3) := ⟨(ho g NEi.out).trans R2.out⟩; have F3 := am (fr_new F2.out (Fr.stored (S := fun k => k = gi) hb ho hs rfl) GNi.out); clear hA hb ho hs K2 Kr2 R2 F2)
    | (go_at_call 75; (with_reducible refine (of_w hk _).mono ?_); rintro e w4 ⟨rfl, hb⟩; have K4 := am (blk_below K3.out hb); have Kr4 := am (blk_below Kr3.out hb); have R4 : Aside0 (RdAt g s a m w4) := ⟨blk_below R3.out hb⟩; have F4 := am (F3.out.below hb); have LI := am (blk_lt K4.out); have LR := am (blk_lt Kr4.out); have W4 := am F4.out.size; clear hb K3 Kr3 R3 F3)
    | (go_at_call 82; (with_reducible refine (wide_w hw _).mono ?_); rintro e w5 ⟨rfl, hb⟩; have K5 := am (blk_below K4.out hb); have Kr5 := am (blk_below Kr4.out hb); have R5 : Aside0 (RdAt g s a m w5) := ⟨blk_below R4.out hb⟩; have F5 := am (F4.out.below hb); clear hb K4 Kr4 R4 F4)
    | (go_at_call 83; (with_reducible refine (as_er (gets_number R5.out hs) HU.out).mono ?_); rintro e w9 ⟨rfl, g2⟩; have F9 := am (F5.out.then_ g2 (fun k hk => .inl hk)); clear g2))
   exact ⟨rfl, onePost_er rfl ⟨rfl, F9.out⟩⟩
  | ok p =>
   obtain ⟨x, a1⟩ := p
   have HU := am hu
   have HUr := am (GS_at (pNum_ok hu))
   clear hu
   simp only [oneI]
   go_enter Tryd.func77, Tryd.ntmps77
   go_wp2_with (first
    | ((with_reducible refine gate_dst (N := 6) rfl ?_); refine box_event ?hg (N := 6) ?hd (cs := #[.int .i64 0, .int .i64 0, .int .i64 0, .int .i64 0, .int .i64 0, .slice none 0 0, .slice none 0 0, .slice none 0 0]) (t := 110) ?hr ?_; (case hd => rfl); (case hg => rfl); (case hr => first | (go_simp; done) | (go_simp; rfl)); intro gr hggr w1 hA hb; have Kr1 := am hA; have R1 : Aside0 (RdAt g s a m w1) := ⟨blk_below H.out hb⟩; have F1 := am (Fr.of_below hb (fun k => k = g)); have NEr := am (show g ≠ gr by have := blk_lt H.out; omega); have GNr := am (show W.heap.size ≤ gr by omega); clear hggr hA hb)
    | ((with_reducible refine gate_dst (N := 7) rfl ?_); refine box_event ?hg (N := 7) ?hd (cs := #[.int .i64 0, .int .i64 0, .int .i64 0, .int .i64 0, .int .i64 0, .slice none 0 0, .slice none 0 0, .slice none 0 0]) (t := 110) ?hr ?_; (case hd => rfl); (case hg => rfl); (case hr => first | (go_simp; done) | (go_simp; rfl)); intro gi hggi w2 hA hb; have K2 := am hA; have Kr2 := am (blk_below Kr1.out hb); have R2 : Aside0 (RdAt g s a m w2) := ⟨blk_below R1.out hb⟩; have F2 := am (F1.out.below hb); have NEi := am (show g ≠ gi by have := blk_lt R1.out; omega); have NEir := am (show gr ≠ gi by have := blk_lt Kr1.out; omega); have GNi := am (show W.heap.size ≤ gi by have := F1.out.size; omega); clear hggi hA hb Kr1 R1 F1)
    | ((with_reducible refine gate_store (p := 7) rfl ?_); refine storeRow_event (g := gi) rfl rfl rfl (cs := #[.int .i64 op, .int .i64 0, .int .i64 0, .int .i64 0, .int .i64 0, .slice none 0 0, .slice none 0 0, .slice none 0 0]) rfl rfl K2.out (by kernel_rfl) rfl (by simp [Value.oneCell']) ?_; intro w3 hA hb ho hs; have K3 := am hA; have Kr3 := am ((ho gr NEir.out).trans Kr2.out); have R3 : Aside0 (RdAt g s a m w3) := ⟨(ho g NEi.out).trans R2.out⟩; have F3 := am (fr_new F2.out (Fr.stored (S := fun k => k = gi) hb ho hs rfl) GNi.out); clear hA hb ho hs K2 Kr2 R2 F2)
    | (go_at_call 75; (with_reducible refine (of_w hk _).mono ?_); rintro e w4 ⟨rfl, hb⟩; have K4 := am (blk_below K3.out hb); have Kr4 := am (blk_below Kr3.out hb); have R4 : Aside0 (RdAt g s a m w4) := ⟨blk_below R3.out hb⟩; have F4 := am (F3.out.below hb); have LI := am (blk_lt K4.out); have LR := am (blk_lt Kr4.out); have W4 := am F4.out.size; clear hb K3 Kr3 R3 F3)
    | (go_at_call 82; (with_reducible refine (wide_w hw _).mono ?_); rintro e w5 ⟨rfl, hb⟩; have K5 := am (blk_below K4.out hb); have Kr5 := am (blk_below Kr4.out hb); have R5 : Aside0 (RdAt g s a m w5) := ⟨blk_below R4.out hb⟩; have F5 := am (F4.out.below hb); clear hb K4 Kr4 R4 F4)
    | (go_at_call 83; (with_reducible refine (as_ok (gets_number R5.out hs) HU.out).mono ?_); rintro e w6 ⟨rfl, g1, g2⟩; have R6 := am g1; have K6 := am (g2.block K5.out (fun h => NEi.out h.symm)); have Kr6 := am (g2.block Kr5.out (fun h => NEr.out h.symm)); have F6 := am (F5.out.then_ g2 (fun k hk => .inl hk)); clear g1 g2 K5 Kr5 R5 F5)
    | ((with_reducible refine gate_store (p := 53) rfl ?_); refine storeCell_event (g := gi) (j := 3) (x := .int .i64 x) rfl rfl rfl rfl rfl K6.out (by simp) (by kernel_rfl) rfl ?_; intro w7 hA hb ho hs; have K7 : Aside0 (w7.heap[gi]? = some (.cells #[.int .i64 op, .int .i64 0, .int .i64 0, .int .i64 x, .int .i64 0, .slice none 0 0, .slice none 0 0, .slice none 0 0] 110 (0, 0))) := ⟨hA⟩; have Kr7 := am ((ho gr NEir.out).trans Kr6.out); have R7 := am (rd_keep R6.out (ho g NEi.out)); have F7 := am (fr_new F6.out (Fr.stored (S := fun k => k = gi) hb ho hs rfl) GNi.out); have y0 : w7.cell? ⟨gi, 0, none⟩ = some (.int .i64 op) := blk_cell K7.out 0; have y1 : w7.cell? ⟨gi, 1, none⟩ = some (.int .i64 0) := blk_cell K7.out 1; have y2 : w7.cell? ⟨gi, 2, none⟩ = some (.int .i64 0) := blk_cell K7.out 2; have y3 : w7.cell? ⟨gi, 3, none⟩ = some (.int .i64 x) := blk_cell K7.out 3; have y4 : w7.cell? ⟨gi, 4, none⟩ = some (.int .i64 0) := blk_cell K7.out 4; have y5 : w7.cell? ⟨gi, 5, none⟩ = some (.slice none 0 0) := blk_cell K7.out 5; have y6 : w7.cell? ⟨gi, 6, none⟩ = some (.slice none 0 0) := blk_cell K7.out 6; have y7 : w7.cell? ⟨gi, 7, none⟩ = some (.slice none 0 0) := blk_cell K7.out 7; clear hA hb ho hs K6 Kr6 R6 F6)
    | ((with_reducible refine gate_store (p := 6) rfl ?_); refine storeRow_event (g := gr) rfl rfl rfl (cs := #[.int .i64 op, .int .i64 0, .int .i64 0, .int .i64 x, .int .i64 0, .slice none 0 0, .slice none 0 0, .slice none 0 0]) rfl rfl Kr7.out (by kernel_rfl) rfl (by simp [Value.oneCell']) ?_; intro w8 hA hb ho hs; have Kr8 := am hA; have R8 := am (rd_keep R7.out (ho g NEr.out)); have F8 := am (fr_new F7.out (Fr.stored (S := fun k => k = gr) hb ho hs rfl) GNr.out); have q0 : w8.cell? ⟨gr, 0, none⟩ = some (.int .i64 op) := blk_cell Kr8.out 0; have q1 : w8.cell? ⟨gr, 1, none⟩ = some (.int .i64 0) := blk_cell Kr8.out 1; have q2 : w8.cell? ⟨gr, 2, none⟩ = some (.int .i64 0) := blk_cell Kr8.out 2; have q3 : w8.cell? ⟨gr, 3, none⟩ = some (.int .i64 x) := blk_cell Kr8.out 3; have q4 : w8.cell? ⟨gr, 4, none⟩ = some (.int .i64 0) := blk_cell Kr8.out 4; have q5 : w8.cell? ⟨gr, 5, none⟩ = some (.slice none 0 0) := blk_cell Kr8.out 5; have q6 : w8.cell? ⟨gr, 6, none⟩ = some (.slice none 0 0) := blk_cell Kr8.out 6; have q7 : w8.cell? ⟨gr, 7, none⟩ = some (.slice none 0 0) := blk_cell Kr8.out 7; clear hA hb ho hs Kr7 R7 F7))
   exact bodyPost_ret (v := .agg #[.int .i64 op, .int .i64 0, .int .i64 0, .int .i64 x, .int .i64 0, .slice none 0 0, .slice none 0 0, .slice none 0 0]) (by simp [results, Tryd.f77, go_sem, q0, q1, q2, q3, q4, q5, q6, q7]) rfl ⟨_, _, _, rfl, k110_mkM w8 0 _ ⟨op, 0, 0, x, 0, [], [], []⟩ (Kd.R_nil _ _ _ _ _) (Kd.R_nil _ _ _ _ _) (Kd.R_nil _ _ _ _ _), R8.out, F8.out⟩
 | false =>
  simp only [Bool.false_eq_true, if_false, reduceIte]
  cases hu : pNum (GS s a 32) with
  | error c =>
   have HU := am hu
   clear hu
   simp only [oneI]
   go_enter Tryd.func77, Tryd.ntmps77
   go_wp2_with (first
    | ((with_reducible refine gate_dst (N := 6) rfl ?_); refine box_event ?hg (N := 6) ?hd (cs := #[.int .i64 0, .int .i64 0, .int .i64 0, .int .i64 0, .int .i64 0, .slice none 0 0, .slice none 0 0, .slice none 0 0]) (t := 110) ?hr ?_; (case hd => rfl); (case hg => rfl); (case hr => first | (go_simp; done) | (go_simp; rfl)); intro gr hggr w1 hA hb; have Kr1 := am hA; have R1 : Aside0 (RdAt g s a m w1) := ⟨blk_below H.out hb⟩; have F1 := am (Fr.of_below hb (fun k => k = g)); have NEr := am (show g ≠ gr by have := blk_lt H.out; omega); have GNr := am (show W.heap.size ≤ gr by omega); clear hggr hA hb)
    | ((with_reducible refine gate_dst (N := 7) rfl ?_); refine box_event ?hg (N := 7) ?hd (cs := #[.int .i64 0, .int .i64 0, .int .i64 0, .int .i64 0, .int .i64 0, .slice none 0 0, .slice none 0 0, .slice none 0 0]) (t := 110) ?hr ?_; (case hd => rfl); (case hg => rfl); (case hr => first | (go_simp; done) | (go_simp; rfl)); intro gi hggi w2 hA hb; have K2 := am hA; have Kr2 := am (blk_below Kr1.out hb); have R2 : Aside0 (RdAt g s a m w2) := ⟨blk_below R1.out hb⟩; have F2 := am (F1.out.below hb); have NEi := am (show g ≠ gi by have := blk_lt R1.out; omega); have NEir := am (show gr ≠ gi by have := blk_lt Kr1.out; omega); have GNi := am (show W.heap.size ≤ gi by have := F1.out.size; omega); clear hggi hA hb Kr1 R1 F1)
    | ((with_reducible refine gate_store (p := 7) rfl ?_); refine storeRow_event (g := gi) rfl rfl rfl (cs := #[.int .i64 op, .int .i64 0, .int .i64 0, .int .i64 0, .int .i64 0, .slice none 0 0, .slice none 0 0, .slice none 0 0]) rfl rfl K2.out (by kernel_rfl) rfl (by simp [Value.oneCell']) ?_; intro w3 hA hb ho hs; have K3 := am hA; have Kr3 := am ((ho gr NEir.out).trans Kr2.out); have R3 : Aside0 (RdAt g s a m w3) := ⟨(ho g NEi.out).trans R2.out⟩; have F3 := am (fr_new F2.out (Fr.stored (S := fun k => k = gi) hb ho hs rfl) GNi.out); clear hA hb ho hs K2 Kr2 R2 F2)
    | (go_at_call 75; (with_reducible refine (of_w hk _).mono ?_); rintro e w4 ⟨rfl, hb⟩; have K4 := am (blk_below K3.out hb); have Kr4 := am (blk_below Kr3.out hb); have R4 : Aside0 (RdAt g s a m w4) := ⟨blk_below R3.out hb⟩; have F4 := am (F3.out.below hb); have LI := am (blk_lt K4.out); have LR := am (blk_lt Kr4.out); have W4 := am F4.out.size; clear hb K3 Kr3 R3 F3)
    | (go_at_call 82; (with_reducible refine (wide_w hw _).mono ?_); rintro e w5 ⟨rfl, hb⟩; have K5 := am (blk_below K4.out hb); have Kr5 := am (blk_below Kr4.out hb); have R5 : Aside0 (RdAt g s a m w5) := ⟨blk_below R4.out hb⟩; have F5 := am (F4.out.below hb); clear hb K4 Kr4 R4 F4)
    | (go_at_call 83; (with_reducible refine (as_er (gets_number R5.out hs) HU.out).mono ?_); rintro e w9 ⟨rfl, g2⟩; have F9 := am (F5.out.then_ g2 (fun k hk => .inl hk)); clear g2))
   exact ⟨rfl, onePost_er rfl ⟨rfl, F9.out⟩⟩
  | ok p =>
   obtain ⟨x, a1⟩ := p
   have HU := am hu
   have HUr := am (GS_at (pNum_ok hu))
   clear hu
   simp only [oneI]
   go_enter Tryd.func77, Tryd.ntmps77
   go_wp2_with (first
    | ((with_reducible refine gate_dst (N := 6) rfl ?_); refine box_event ?hg (N := 6) ?hd (cs := #[.int .i64 0, .int .i64 0, .int .i64 0, .int .i64 0, .int .i64 0, .slice none 0 0, .slice none 0 0, .slice none 0 0]) (t := 110) ?hr ?_; (case hd => rfl); (case hg => rfl); (case hr => first | (go_simp; done) | (go_simp; rfl)); intro gr hggr w1 hA hb; have Kr1 := am hA; have R1 : Aside0 (RdAt g s a m w1) := ⟨blk_below H.out hb⟩; have F1 := am (Fr.of_below hb (fun k => k = g)); have NEr := am (show g ≠ gr by have := blk_lt H.out; omega); have GNr := am (show W.heap.size ≤ gr by omega); clear hggr hA hb)
    | ((with_reducible refine gate_dst (N := 7) rfl ?_); refine box_event ?hg (N := 7) ?hd (cs := #[.int .i64 0, .int .i64 0, .int .i64 0, .int .i64 0, .int .i64 0, .slice none 0 0, .slice none 0 0, .slice none 0 0]) (t := 110) ?hr ?_; (case hd => rfl); (case hg => rfl); (case hr => first | (go_simp; done) | (go_simp; rfl)); intro gi hggi w2 hA hb; have K2 := am hA; have Kr2 := am (blk_below Kr1.out hb); have R2 : Aside0 (RdAt g s a m w2) := ⟨blk_below R1.out hb⟩; have F2 := am (F1.out.below hb); have NEi := am (show g ≠ gi by have := blk_lt R1.out; omega); have NEir := am (show gr ≠ gi by have := blk_lt Kr1.out; omega); have GNi := am (show W.heap.size ≤ gi by have := F1.out.size; omega); clear hggi hA hb Kr1 R1 F1)
    | ((with_reducible refine gate_store (p := 7) rfl ?_); refine storeRow_event (g := gi) rfl rfl rfl (cs := #[.int .i64 op, .int .i64 0, .int .i64 0, .int .i64 0, .int .i64 0, .slice none 0 0, .slice none 0 0, .slice none 0 0]) rfl rfl K2.out (by kernel_rfl) rfl (by simp [Value.oneCell']) ?_; intro w3 hA hb ho hs; have K3 := am hA; have Kr3 := am ((ho gr NEir.out).trans Kr2.out); have R3 : Aside0 (RdAt g s a m w3) := ⟨(ho g NEi.out).trans R2.out⟩; have F3 := am (fr_new F2.out (Fr.stored (S := fun k => k = gi) hb ho hs rfl) GNi.out); clear hA hb ho hs K2 Kr2 R2 F2)
    | (go_at_call 75; (with_reducible refine (of_w hk _).mono ?_); rintro e w4 ⟨rfl, hb⟩; have K4 := am (blk_below K3.out hb); have Kr4 := am (blk_below Kr3.out hb); have R4 : Aside0 (RdAt g s a m w4) := ⟨blk_below R3.out hb⟩; have F4 := am (F3.out.below hb); have LI := am (blk_lt K4.out); have LR := am (blk_lt Kr4.out); have W4 := am F4.out.size; clear hb K3 Kr3 R3 F3)
    | (go_at_call 82; (with_reducible refine (wide_w hw _).mono ?_); rintro e w5 ⟨rfl, hb⟩; have K5 := am (blk_below K4.out hb); have Kr5 := am (blk_below Kr4.out hb); have R5 : Aside0 (RdAt g s a m w5) := ⟨blk_below R4.out hb⟩; have F5 := am (F4.out.below hb); clear hb K4 Kr4 R4 F4)
    | (go_at_call 83; (with_reducible refine (as_ok (gets_number R5.out hs) HU.out).mono ?_); rintro e w6 ⟨rfl, g1, g2⟩; have R6 := am g1; have K6 := am (g2.block K5.out (fun h => NEi.out h.symm)); have Kr6 := am (g2.block Kr5.out (fun h => NEr.out h.symm)); have F6 := am (F5.out.then_ g2 (fun k hk => .inl hk)); clear g1 g2 K5 Kr5 R5 F5)
    | (go_at_call 85; (with_reducible refine (low_w rfl _).mono ?_); rintro e w7 ⟨rfl, hb⟩; have K7 := am (blk_below K6.out hb); have Kr7 := am (blk_below Kr6.out hb); have R7 := am (rd_below R6.out hb); have F7 := am (F6.out.below hb); clear hb K6 Kr6 R6 F6)
    | ((with_reducible refine gate_store (p := 57) rfl ?_); refine storeCell_event (g := gi) (j := 3) (x := .int .i64 (x % 4294967296)) rfl rfl rfl rfl rfl K7.out (by simp) (by kernel_rfl) rfl ?_; intro w8 hA hb ho hs; have K8 : Aside0 (w8.heap[gi]? = some (.cells #[.int .i64 op, .int .i64 0, .int .i64 0, .int .i64 (x % 4294967296), .int .i64 0, .slice none 0 0, .slice none 0 0, .slice none 0 0] 110 (0, 0))) := ⟨hA⟩; have Kr8 := am ((ho gr NEir.out).trans Kr7.out); have R8 := am (rd_keep R7.out (ho g NEi.out)); have F8 := am (fr_new F7.out (Fr.stored (S := fun k => k = gi) hb ho hs rfl) GNi.out); have y0 : w8.cell? ⟨gi, 0, none⟩ = some (.int .i64 op) := blk_cell K8.out 0; have y1 : w8.cell? ⟨gi, 1, none⟩ = some (.int .i64 0) := blk_cell K8.out 1; have y2 : w8.cell? ⟨gi, 2, none⟩ = some (.int .i64 0) := blk_cell K8.out 2; have y3 : w8.cell? ⟨gi, 3, none⟩ = some (.int .i64 (x % 4294967296)) := blk_cell K8.out 3; have y4 : w8.cell? ⟨gi, 4, none⟩ = some (.int .i64 0) := blk_cell K8.out 4; have y5 : w8.cell? ⟨gi, 5, none⟩ = some (.slice none 0 0) := blk_cell K8.out 5; have y6 : w8.cell? ⟨gi, 6, none⟩ = some (.slice none 0 0) := blk_cell K8.out 6; have y7 : w8.cell? ⟨gi, 7, none⟩ = some (.slice none 0 0) := blk_cell K8.out 7; clear hA hb ho hs K7 Kr7 R7 F7)
    | ((with_reducible refine gate_store (p := 6) rfl ?_); refine storeRow_event (g := gr) rfl rfl rfl (cs := #[.int .i64 op, .int .i64 0, .int .i64 0, .int .i64 (x % 4294967296), .int .i64 0, .slice none 0 0, .slice none 0 0, .slice none 0 0]) rfl rfl Kr8.out (by kernel_rfl) rfl (by simp [Value.oneCell']) ?_; intro w9 hA hb ho hs; have Kr9 := am hA; have R9 := am (rd_keep R8.out (ho g NEr.out)); have F9 := am (fr_new F8.out (Fr.stored (S := fun k => k = gr) hb ho hs rfl) GNr.out); have q0 : w9.cell? ⟨gr, 0, none⟩ = some (.int .i64 op) := blk_cell Kr9.out 0; have q1 : w9.cell? ⟨gr, 1, none⟩ = some (.int .i64 0) := blk_cell Kr9.out 1; have q2 : w9.cell? ⟨gr, 2, none⟩ = some (.int .i64 0) := blk_cell Kr9.out 2; have q3 : w9.cell? ⟨gr, 3, none⟩ = some (.int .i64 (x % 4294967296)) := blk_cell Kr9.out 3; have q4 : w9.cell? ⟨gr, 4, none⟩ = some (.int .i64 0) := blk_cell Kr9.out 4; have q5 : w9.cell? ⟨gr, 5, none⟩ = some (.slice none 0 0) := blk_cell Kr9.out 5; have q6 : w9.cell? ⟨gr, 6, none⟩ = some (.slice none 0 0) := blk_cell Kr9.out 6; have q7 : w9.cell? ⟨gr, 7, none⟩ = some (.slice none 0 0) := blk_cell Kr9.out 7; clear hA hb ho hs Kr8 R8 F8))
   exact bodyPost_ret (v := .agg #[.int .i64 op, .int .i64 0, .int .i64 0, .int .i64 (x % 4294967296), .int .i64 0, .slice none 0 0, .slice none 0 0, .slice none 0 0]) (by simp [results, Tryd.f77, go_sem, q0, q1, q2, q3, q4, q5, q6, q7]) rfl ⟨_, _, _, rfl, k110_mkM w9 0 _ ⟨op, 0, 0, x % 4294967296, 0, [], [], []⟩ (Kd.R_nil _ _ _ _ _) (Kd.R_nil _ _ _ _ _) (Kd.R_nil _ _ _ _ _), R9.out, F9.out⟩
set_option maxHeartbeats 4000000 in
set_option maxRecDepth 100000 in
theorem one_9 {s : ByteArray} {n : Nat} (hl : ListOk s n) (hs : s.size ≤ 140737488355328) {g : Nat} {op a m d : Int} {W : World} (h : RdAt g s a m W) (h0 : 0 ≤ a) (h1 : a ≤ s.size) (hf : (s.size : Int) - a < n) (hm0 : 0 ≤ m) (hm : m ≤ 8192) (hd0 : 0 ≤ d) (hd : d ≤ 33) (hk : ofF op = 9) :
  Calls Tryd.prog 77 #[.pointer (some ⟨g, 0, none⟩), .int .i64 op, .int .i64 d] W (OnePost g s W (pOne s (pList s n) op d a m)) := by
 have H := am h
 have P := am (show 0 ≤ a ∧ a ≤ s.size ∧ (s.size : Int) - a < n ∧ 0 ≤ m ∧ m ≤ 8192 ∧ 0 ≤ d ∧ d ≤ 33 by omega)
 clear h hf hm0 hm hd0 hd h0 h1
 unfold pOne
 rw [hk]
 simp only [if_false, if_true, Int.reduceEq, ↓reduceIte, reduceCtorEq]
 cases hw : wideB op with
 | true =>
  simp only [if_true, reduceIte]
  cases hu : pLow s 8 0 0 a with
  | error c =>
   have HU := am hu
   clear hu
   simp only [oneI]
   go_enter Tryd.func77, Tryd.ntmps77
   go_wp2_with (first
    | ((with_reducible refine gate_dst (N := 6) rfl ?_); refine box_event ?hg (N := 6) ?hd (cs := #[.int .i64 0, .int .i64 0, .int .i64 0, .int .i64 0, .int .i64 0, .slice none 0 0, .slice none 0 0, .slice none 0 0]) (t := 110) ?hr ?_; (case hd => rfl); (case hg => rfl); (case hr => first | (go_simp; done) | (go_simp; rfl)); intro gr hggr w1 hA hb; have Kr1 := am hA; have R1 : Aside0 (RdAt g s a m w1) := ⟨blk_below H.out hb⟩; have F1 := am (Fr.of_below hb (fun k => k = g)); have NEr := am (show g ≠ gr by have := blk_lt H.out; omega); have GNr := am (show W.heap.size ≤ gr by omega); clear hggr hA hb)
    | ((with_reducible refine gate_dst (N := 7) rfl ?_); refine box_event ?hg (N := 7) ?hd (cs := #[.int .i64 0, .int .i64 0, .int .i64 0, .int .i64 0, .int .i64 0, .slice none 0 0, .slice none 0 0, .slice none 0 0]) (t := 110) ?hr ?_; (case hd => rfl); (case hg => rfl); (case hr => first | (go_simp; done) | (go_simp; rfl)); intro gi hggi w2 hA hb; have K2 := am hA; have Kr2 := am (blk_below Kr1.out hb); have R2 : Aside0 (RdAt g s a m w2) := ⟨blk_below R1.out hb⟩; have F2 := am (F1.out.below hb); have NEi := am (show g ≠ gi by have := blk_lt R1.out; omega); have NEir := am (show gr ≠ gi by have := blk_lt Kr1.out; omega); have GNi := am (show W.heap.size ≤ gi by have := F1.out.size; omega); clear hggi hA hb Kr1 R1 F1)
    | ((with_reducible refine gate_store (p := 7) rfl ?_); refine storeRow_event (g := gi) rfl rfl rfl (cs := #[.int .i64 op, .int .i64 0, .int .i64 0, .int .i64 0, .int .i64 0, .slice none 0 0, .slice none 0 0, .slice none 0 0]) rfl rfl K2.out (by kernel_rfl) rfl (by simp [Value.oneCell']) ?_; intro w3 hA hb ho hs; have K3 := am hA; have Kr3 := am ((ho gr NEir.out).trans Kr2.out); have R3 : Aside0 (RdAt g s a m w3) := ⟨(ho g NEi.out).trans R2.out⟩; have F3 := am (fr_new F2.out (Fr.stored (S := fun k => k = gi) hb ho hs rfl) GNi.out); clear hA hb ho hs K2 Kr2 R2 F2)
    | (go_at_call 75; (with_reducible refine (of_w hk _).mono ?_); rintro e w4 ⟨rfl, hb⟩; have K4 := am (blk_below K3.out hb); have Kr4 := am (blk_below Kr3.out hb); have R4 : Aside0 (RdAt g s a m w4) := ⟨blk_below R3.out hb⟩; have F4 := am (F3.out.below hb); have LI := am (blk_lt K4.out); have LR := am (blk_lt Kr4.out); have W4 := am F4.out.size; clear hb K3 Kr3 R3 F3)
    | (go_at_call 82; (with_reducible refine (wide_w hw _).mono ?_); rintro e w5 ⟨rfl, hb⟩; have K5 := am (blk_below K4.out hb); have Kr5 := am (blk_below Kr4.out hb); have R5 : Aside0 (RdAt g s a m w5) := ⟨blk_below R4.out hb⟩; have F5 := am (F4.out.below hb); clear hb K4 Kr4 R4 F4)
    | (go_at_call 86; (with_reducible refine (as_er (low_8 R5.out P.out.1 hs) HU.out).mono ?_); rintro e w9 ⟨rfl, g2⟩; have F9 := am (F5.out.then_ g2 (fun k hk => .inl hk)); clear g2))
   exact ⟨rfl, onePost_er rfl ⟨rfl, F9.out⟩⟩
  | ok p =>
   obtain ⟨x, a1⟩ := p
   have HU := am hu
   have HUr := am (pLow_ok _ hu P.out.1)
   clear hu
   simp only [oneI]
   go_enter Tryd.func77, Tryd.ntmps77
   go_wp2_with (first
    | ((with_reducible refine gate_dst (N := 6) rfl ?_); refine box_event ?hg (N := 6) ?hd (cs := #[.int .i64 0, .int .i64 0, .int .i64 0, .int .i64 0, .int .i64 0, .slice none 0 0, .slice none 0 0, .slice none 0 0]) (t := 110) ?hr ?_; (case hd => rfl); (case hg => rfl); (case hr => first | (go_simp; done) | (go_simp; rfl)); intro gr hggr w1 hA hb; have Kr1 := am hA; have R1 : Aside0 (RdAt g s a m w1) := ⟨blk_below H.out hb⟩; have F1 := am (Fr.of_below hb (fun k => k = g)); have NEr := am (show g ≠ gr by have := blk_lt H.out; omega); have GNr := am (show W.heap.size ≤ gr by omega); clear hggr hA hb)
    | ((with_reducible refine gate_dst (N := 7) rfl ?_); refine box_event ?hg (N := 7) ?hd (cs := #[.int .i64 0, .int .i64 0, .int .i64 0, .int .i64 0, .int .i64 0, .slice none 0 0, .slice none 0 0, .slice none 0 0]) (t := 110) ?hr ?_; (case hd => rfl); (case hg => rfl); (case hr => first | (go_simp; done) | (go_simp; rfl)); intro gi hggi w2 hA hb; have K2 := am hA; have Kr2 := am (blk_below Kr1.out hb); have R2 : Aside0 (RdAt g s a m w2) := ⟨blk_below R1.out hb⟩; have F2 := am (F1.out.below hb); have NEi := am (show g ≠ gi by have := blk_lt R1.out; omega); have NEir := am (show gr ≠ gi by have := blk_lt Kr1.out; omega); have GNi := am (show W.heap.size ≤ gi by have := F1.out.size; omega); clear hggi hA hb Kr1 R1 F1)
    | ((with_reducible refine gate_store (p := 7) rfl ?_); refine storeRow_event (g := gi) rfl rfl rfl (cs := #[.int .i64 op, .int .i64 0, .int .i64 0, .int .i64 0, .int .i64 0, .slice none 0 0, .slice none 0 0, .slice none 0 0]) rfl rfl K2.out (by kernel_rfl) rfl (by simp [Value.oneCell']) ?_; intro w3 hA hb ho hs; have K3 := am hA; have Kr3 := am ((ho gr NEir.out).trans Kr2.out); have R3 : Aside0 (RdAt g s a m w3) := ⟨(ho g NEi.out).trans R2.out⟩; have F3 := am (fr_new F2.out (Fr.stored (S := fun k => k = gi) hb ho hs rfl) GNi.out); clear hA hb ho hs K2 Kr2 R2 F2)
    | (go_at_call 75; (with_reducible refine (of_w hk _).mono ?_); rintro e w4 ⟨rfl, hb⟩; have K4 := am (blk_below K3.out hb); have Kr4 := am (blk_below Kr3.out hb); have R4 : Aside0 (RdAt g s a m w4) := ⟨blk_below R3.out hb⟩; have F4 := am (F3.out.below hb); have LI := am (blk_lt K4.out); have LR := am (blk_lt Kr4.out); have W4 := am F4.out.size; clear hb K3 Kr3 R3 F3)
    | (go_at_call 82; (with_reducible refine (wide_w hw _).mono ?_); rintro e w5 ⟨rfl, hb⟩; have K5 := am (blk_below K4.out hb); have Kr5 := am (blk_below Kr4.out hb); have R5 : Aside0 (RdAt g s a m w5) := ⟨blk_below R4.out hb⟩; have F5 := am (F4.out.below hb); clear hb K4 Kr4 R4 F4)
    | (go_at_call 86; (with_reducible refine (as_ok (low_8 R5.out P.out.1 hs) HU.out).mono ?_); rintro e w6 ⟨rfl, g1, g2⟩; have R6 := am g1; have K6 := am (g2.block K5.out (fun h => NEi.out h.symm)); have Kr6 := am (g2.block Kr5.out (fun h => NEr.out h.symm)); have F6 := am (F5.out.then_ g2 (fun k hk => .inl hk)); clear g1 g2 K5 Kr5 R5 F5)
    | ((with_reducible refine gate_store (p := 65) rfl ?_); refine storeCell_event (g := gi) (j := 3) (x := .int .i64 x) rfl rfl rfl rfl rfl K6.out (by simp) (by kernel_rfl) rfl ?_; intro w7 hA hb ho hs; have K7 : Aside0 (w7.heap[gi]? = some (.cells #[.int .i64 op, .int .i64 0, .int .i64 0, .int .i64 x, .int .i64 0, .slice none 0 0, .slice none 0 0, .slice none 0 0] 110 (0, 0))) := ⟨hA⟩; have Kr7 := am ((ho gr NEir.out).trans Kr6.out); have R7 := am (rd_keep R6.out (ho g NEi.out)); have F7 := am (fr_new F6.out (Fr.stored (S := fun k => k = gi) hb ho hs rfl) GNi.out); have y0 : w7.cell? ⟨gi, 0, none⟩ = some (.int .i64 op) := blk_cell K7.out 0; have y1 : w7.cell? ⟨gi, 1, none⟩ = some (.int .i64 0) := blk_cell K7.out 1; have y2 : w7.cell? ⟨gi, 2, none⟩ = some (.int .i64 0) := blk_cell K7.out 2; have y3 : w7.cell? ⟨gi, 3, none⟩ = some (.int .i64 x) := blk_cell K7.out 3; have y4 : w7.cell? ⟨gi, 4, none⟩ = some (.int .i64 0) := blk_cell K7.out 4; have y5 : w7.cell? ⟨gi, 5, none⟩ = some (.slice none 0 0) := blk_cell K7.out 5; have y6 : w7.cell? ⟨gi, 6, none⟩ = some (.slice none 0 0) := blk_cell K7.out 6; have y7 : w7.cell? ⟨gi, 7, none⟩ = some (.slice none 0 0) := blk_cell K7.out 7; clear hA hb ho hs K6 Kr6 R6 F6)
    | ((with_reducible refine gate_store (p := 6) rfl ?_); refine storeRow_event (g := gr) rfl rfl rfl (cs := #[.int .i64 op, .int .i64 0, .int .i64 0, .int .i64 x, .int .i64 0, .slice none 0 0, .slice none 0 0, .slice none 0 0]) rfl rfl Kr7.out (by kernel_rfl) rfl (by simp [Value.oneCell']) ?_; intro w8 hA hb ho hs; have Kr8 := am hA; have R8 := am (rd_keep R7.out (ho g NEr.out)); have F8 := am (fr_new F7.out (Fr.stored (S := fun k => k = gr) hb ho hs rfl) GNr.out); have q0 : w8.cell? ⟨gr, 0, none⟩ = some (.int .i64 op) := blk_cell Kr8.out 0; have q1 : w8.cell? ⟨gr, 1, none⟩ = some (.int .i64 0) := blk_cell Kr8.out 1; have q2 : w8.cell? ⟨gr, 2, none⟩ = some (.int .i64 0) := blk_cell Kr8.out 2; have q3 : w8.cell? ⟨gr, 3, none⟩ = some (.int .i64 x) := blk_cell Kr8.out 3; have q4 : w8.cell? ⟨gr, 4, none⟩ = some (.int .i64 0) := blk_cell Kr8.out 4; have q5 : w8.cell? ⟨gr, 5, none⟩ = some (.slice none 0 0) := blk_cell Kr8.out 5; have q6 : w8.cell? ⟨gr, 6, none⟩ = some (.slice none 0 0) := blk_cell Kr8.out 6; have q7 : w8.cell? ⟨gr, 7, none⟩ = some (.slice none 0 0) := blk_cell Kr8.out 7; clear hA hb ho hs Kr7 R7 F7))
   exact bodyPost_ret (v := .agg #[.int .i64 op, .int .i64 0, .int .i64 0, .int .i64 x, .int .i64 0, .slice none 0 0, .slice none 0 0, .slice none 0 0]) (by simp [results, Tryd.f77, go_sem, q0, q1, q2, q3, q4, q5, q6, q7]) rfl ⟨_, _, _, rfl, k110_mkM w8 0 _ ⟨op, 0, 0, x, 0, [], [], []⟩ (Kd.R_nil _ _ _ _ _) (Kd.R_nil _ _ _ _ _) (Kd.R_nil _ _ _ _ _), R8.out, F8.out⟩
 | false =>
  simp only [Bool.false_eq_true, if_false, reduceIte]
  cases hu : pLow s 4 0 0 a with
  | error c =>
   have HU := am hu
   clear hu
   simp only [oneI]
   go_enter Tryd.func77, Tryd.ntmps77
   go_wp2_with (first
    | ((with_reducible refine gate_dst (N := 6) rfl ?_); refine box_event ?hg (N := 6) ?hd (cs := #[.int .i64 0, .int .i64 0, .int .i64 0, .int .i64 0, .int .i64 0, .slice none 0 0, .slice none 0 0, .slice none 0 0]) (t := 110) ?hr ?_; (case hd => rfl); (case hg => rfl); (case hr => first | (go_simp; done) | (go_simp; rfl)); intro gr hggr w1 hA hb; have Kr1 := am hA; have R1 : Aside0 (RdAt g s a m w1) := ⟨blk_below H.out hb⟩; have F1 := am (Fr.of_below hb (fun k => k = g)); have NEr := am (show g ≠ gr by have := blk_lt H.out; omega); have GNr := am (show W.heap.size ≤ gr by omega); clear hggr hA hb)
    | ((with_reducible refine gate_dst (N := 7) rfl ?_); refine box_event ?hg (N := 7) ?hd (cs := #[.int .i64 0, .int .i64 0, .int .i64 0, .int .i64 0, .int .i64 0, .slice none 0 0, .slice none 0 0, .slice none 0 0]) (t := 110) ?hr ?_; (case hd => rfl); (case hg => rfl); (case hr => first | (go_simp; done) | (go_simp; rfl)); intro gi hggi w2 hA hb; have K2 := am hA; have Kr2 := am (blk_below Kr1.out hb); have R2 : Aside0 (RdAt g s a m w2) := ⟨blk_below R1.out hb⟩; have F2 := am (F1.out.below hb); have NEi := am (show g ≠ gi by have := blk_lt R1.out; omega); have NEir := am (show gr ≠ gi by have := blk_lt Kr1.out; omega); have GNi := am (show W.heap.size ≤ gi by have := F1.out.size; omega); clear hggi hA hb Kr1 R1 F1)
    | ((with_reducible refine gate_store (p := 7) rfl ?_); refine storeRow_event (g := gi) rfl rfl rfl (cs := #[.int .i64 op, .int .i64 0, .int .i64 0, .int .i64 0, .int .i64 0, .slice none 0 0, .slice none 0 0, .slice none 0 0]) rfl rfl K2.out (by kernel_rfl) rfl (by simp [Value.oneCell']) ?_; intro w3 hA hb ho hs; have K3 := am hA; have Kr3 := am ((ho gr NEir.out).trans Kr2.out); have R3 : Aside0 (RdAt g s a m w3) := ⟨(ho g NEi.out).trans R2.out⟩; have F3 := am (fr_new F2.out (Fr.stored (S := fun k => k = gi) hb ho hs rfl) GNi.out); clear hA hb ho hs K2 Kr2 R2 F2)
    | (go_at_call 75; (with_reducible refine (of_w hk _).mono ?_); rintro e w4 ⟨rfl, hb⟩; have K4 := am (blk_below K3.out hb); have Kr4 := am (blk_below Kr3.out hb); have R4 : Aside0 (RdAt g s a m w4) := ⟨blk_below R3.out hb⟩; have F4 := am (F3.out.below hb); have LI := am (blk_lt K4.out); have LR := am (blk_lt Kr4.out); have W4 := am F4.out.size; clear hb K3 Kr3 R3 F3)
    | (go_at_call 82; (with_reducible refine (wide_w hw _).mono ?_); rintro e w5 ⟨rfl, hb⟩; have K5 := am (blk_below K4.out hb); have Kr5 := am (blk_below Kr4.out hb); have R5 : Aside0 (RdAt g s a m w5) := ⟨blk_below R4.out hb⟩; have F5 := am (F4.out.below hb); clear hb K4 Kr4 R4 F4)
    | (go_at_call 86; (with_reducible refine (as_er (low_4 R5.out P.out.1 hs) HU.out).mono ?_); rintro e w9 ⟨rfl, g2⟩; have F9 := am (F5.out.then_ g2 (fun k hk => .inl hk)); clear g2))
   exact ⟨rfl, onePost_er rfl ⟨rfl, F9.out⟩⟩
  | ok p =>
   obtain ⟨x, a1⟩ := p
   have HU := am hu
   have HUr := am (pLow_ok _ hu P.out.1)
   clear hu
   simp only [oneI]
   go_enter Tryd.func77, Tryd.ntmps77
   go_wp2_with (first
    | ((with_reducible refine gate_dst (N := 6) rfl ?_); refine box_event ?hg (N := 6) ?hd (cs := #[.int .i64 0, .int .i64 0, .int .i64 0, .int .i64 0, .int .i64 0, .slice none 0 0, .slice none 0 0, .slice none 0 0]) (t := 110) ?hr ?_; (case hd => rfl); (case hg => rfl); (case hr => first | (go_simp; done) | (go_simp; rfl)); intro gr hggr w1 hA hb; have Kr1 := am hA; have R1 : Aside0 (RdAt g s a m w1) := ⟨blk_below H.out hb⟩; have F1 := am (Fr.of_below hb (fun k => k = g)); have NEr := am (show g ≠ gr by have := blk_lt H.out; omega); have GNr := am (show W.heap.size ≤ gr by omega); clear hggr hA hb)
    | ((with_reducible refine gate_dst (N := 7) rfl ?_); refine box_event ?hg (N := 7) ?hd (cs := #[.int .i64 0, .int .i64 0, .int .i64 0, .int .i64 0, .int .i64 0, .slice none 0 0, .slice none 0 0, .slice none 0 0]) (t := 110) ?hr ?_; (case hd => rfl); (case hg => rfl); (case hr => first | (go_simp; done) | (go_simp; rfl)); intro gi hggi w2 hA hb; have K2 := am hA; have Kr2 := am (blk_below Kr1.out hb); have R2 : Aside0 (RdAt g s a m w2) := ⟨blk_below R1.out hb⟩; have F2 := am (F1.out.below hb); have NEi := am (show g ≠ gi by have := blk_lt R1.out; omega); have NEir := am (show gr ≠ gi by have := blk_lt Kr1.out; omega); have GNi := am (show W.heap.size ≤ gi by have := F1.out.size; omega); clear hggi hA hb Kr1 R1 F1)
    | ((with_reducible refine gate_store (p := 7) rfl ?_); refine storeRow_event (g := gi) rfl rfl rfl (cs := #[.int .i64 op, .int .i64 0, .int .i64 0, .int .i64 0, .int .i64 0, .slice none 0 0, .slice none 0 0, .slice none 0 0]) rfl rfl K2.out (by kernel_rfl) rfl (by simp [Value.oneCell']) ?_; intro w3 hA hb ho hs; have K3 := am hA; have Kr3 := am ((ho gr NEir.out).trans Kr2.out); have R3 : Aside0 (RdAt g s a m w3) := ⟨(ho g NEi.out).trans R2.out⟩; have F3 := am (fr_new F2.out (Fr.stored (S := fun k => k = gi) hb ho hs rfl) GNi.out); clear hA hb ho hs K2 Kr2 R2 F2)
    | (go_at_call 75; (with_reducible refine (of_w hk _).mono ?_); rintro e w4 ⟨rfl, hb⟩; have K4 := am (blk_below K3.out hb); have Kr4 := am (blk_below Kr3.out hb); have R4 : Aside0 (RdAt g s a m w4) := ⟨blk_below R3.out hb⟩; have F4 := am (F3.out.below hb); have LI := am (blk_lt K4.out); have LR := am (blk_lt Kr4.out); have W4 := am F4.out.size; clear hb K3 Kr3 R3 F3)
    | (go_at_call 82; (with_reducible refine (wide_w hw _).mono ?_); rintro e w5 ⟨rfl, hb⟩; have K5 := am (blk_below K4.out hb); have Kr5 := am (blk_below Kr4.out hb); have R5 : Aside0 (RdAt g s a m w5) := ⟨blk_below R4.out hb⟩; have F5 := am (F4.out.below hb); clear hb K4 Kr4 R4 F4)
    | (go_at_call 86; (with_reducible refine (as_ok (low_4 R5.out P.out.1 hs) HU.out).mono ?_); rintro e w6 ⟨rfl, g1, g2⟩; have R6 := am g1; have K6 := am (g2.block K5.out (fun h => NEi.out h.symm)); have Kr6 := am (g2.block Kr5.out (fun h => NEr.out h.symm)); have F6 := am (F5.out.then_ g2 (fun k hk => .inl hk)); clear g1 g2 K5 Kr5 R5 F5)
    | ((with_reducible refine gate_store (p := 65) rfl ?_); refine storeCell_event (g := gi) (j := 3) (x := .int .i64 x) rfl rfl rfl rfl rfl K6.out (by simp) (by kernel_rfl) rfl ?_; intro w7 hA hb ho hs; have K7 : Aside0 (w7.heap[gi]? = some (.cells #[.int .i64 op, .int .i64 0, .int .i64 0, .int .i64 x, .int .i64 0, .slice none 0 0, .slice none 0 0, .slice none 0 0] 110 (0, 0))) := ⟨hA⟩; have Kr7 := am ((ho gr NEir.out).trans Kr6.out); have R7 := am (rd_keep R6.out (ho g NEi.out)); have F7 := am (fr_new F6.out (Fr.stored (S := fun k => k = gi) hb ho hs rfl) GNi.out); have y0 : w7.cell? ⟨gi, 0, none⟩ = some (.int .i64 op) := blk_cell K7.out 0; have y1 : w7.cell? ⟨gi, 1, none⟩ = some (.int .i64 0) := blk_cell K7.out 1; have y2 : w7.cell? ⟨gi, 2, none⟩ = some (.int .i64 0) := blk_cell K7.out 2; have y3 : w7.cell? ⟨gi, 3, none⟩ = some (.int .i64 x) := blk_cell K7.out 3; have y4 : w7.cell? ⟨gi, 4, none⟩ = some (.int .i64 0) := blk_cell K7.out 4; have y5 : w7.cell? ⟨gi, 5, none⟩ = some (.slice none 0 0) := blk_cell K7.out 5; have y6 : w7.cell? ⟨gi, 6, none⟩ = some (.slice none 0 0) := blk_cell K7.out 6; have y7 : w7.cell? ⟨gi, 7, none⟩ = some (.slice none 0 0) := blk_cell K7.out 7; clear hA hb ho hs K6 Kr6 R6 F6)
    | ((with_reducible refine gate_store (p := 6) rfl ?_); refine storeRow_event (g := gr) rfl rfl rfl (cs := #[.int .i64 op, .int .i64 0, .int .i64 0, .int .i64 x, .int .i64 0, .slice none 0 0, .slice none 0 0, .slice none 0 0]) rfl rfl Kr7.out (by kernel_rfl) rfl (by simp [Value.oneCell']) ?_; intro w8 hA hb ho hs; have Kr8 := am hA; have R8 := am (rd_keep R7.out (ho g NEr.out)); have F8 := am (fr_new F7.out (Fr.stored (S := fun k => k = gr) hb ho hs rfl) GNr.out); have q0 : w8.cell? ⟨gr, 0, none⟩ = some (.int .i64 op) := blk_cell Kr8.out 0; have q1 : w8.cell? ⟨gr, 1, none⟩ = some (.int .i64 0) := blk_cell Kr8.out 1; have q2 : w8.cell? ⟨gr, 2, none⟩ = some (.int .i64 0) := blk_cell Kr8.out 2; have q3 : w8.cell? ⟨gr, 3, none⟩ = some (.int .i64 x) := blk_cell Kr8.out 3; have q4 : w8.cell? ⟨gr, 4, none⟩ = some (.int .i64 0) := blk_cell Kr8.out 4; have q5 : w8.cell? ⟨gr, 5, none⟩ = some (.slice none 0 0) := blk_cell Kr8.out 5; have q6 : w8.cell? ⟨gr, 6, none⟩ = some (.slice none 0 0) := blk_cell Kr8.out 6; have q7 : w8.cell? ⟨gr, 7, none⟩ = some (.slice none 0 0) := blk_cell Kr8.out 7; clear hA hb ho hs Kr7 R7 F7))
   exact bodyPost_ret (v := .agg #[.int .i64 op, .int .i64 0, .int .i64 0, .int .i64 x, .int .i64 0, .slice none 0 0, .slice none 0 0, .slice none 0 0]) (by simp [results, Tryd.f77, go_sem, q0, q1, q2, q3, q4, q5, q6, q7]) rfl ⟨_, _, _, rfl, k110_mkM w8 0 _ ⟨op, 0, 0, x, 0, [], [], []⟩ (Kd.R_nil _ _ _ _ _) (Kd.R_nil _ _ _ _ _) (Kd.R_nil _ _ _ _ _), R8.out, F8.out⟩
set_option maxHeartbeats 4000000 in
set_option maxRecDepth 100000 in
theorem one_2 {s : ByteArray} {n : Nat} (hl : ListOk s n) (hs : s.size ≤ 140737488355328) {g : Nat} {op a m d : Int} {W : World} (h : RdAt g s a m W) (h0 : 0 ≤ a) (h1 : a ≤ s.size) (hf : (s.size : Int) - a < n) (hm0 : 0 ≤ m) (hm : m ≤ 8192) (hd0 : 0 ≤ d) (hd : d ≤ 33) (hk : ofF op = 2) :
  Calls Tryd.prog 77 #[.pointer (some ⟨g, 0, none⟩), .int .i64 op, .int .i64 d] W (OnePost g s W (pOne s (pList s n) op d a m)) := by
 have H := am h
 have P := am (show 0 ≤ a ∧ a ≤ s.size ∧ (s.size : Int) - a < n ∧ 0 ≤ m ∧ m ≤ 8192 ∧ 0 ≤ d ∧ d ≤ 33 by omega)
 clear h hf hm0 hm hd0 hd h0 h1
 unfold pOne
 rw [hk]
 simp only [if_false, if_true, Int.reduceEq, ↓reduceIte, reduceCtorEq]
 cases hu : pBlock s (pList s n) op d a m with
 | error c =>
  have HU := am hu
  clear hu
  go_enter Tryd.func77, Tryd.ntmps77
  go_wp2_with (first
   | ((with_reducible refine gate_dst (N := 6) rfl ?_); refine box_event ?hg (N := 6) ?hd (cs := #[.int .i64 0, .int .i64 0, .int .i64 0, .int .i64 0, .int .i64 0, .slice none 0 0, .slice none 0 0, .slice none 0 0]) (t := 110) ?hr ?_; (case hd => rfl); (case hg => rfl); (case hr => first | (go_simp; done) | (go_simp; rfl)); intro gr hggr w1 hA hb; have Kr1 := am hA; have R1 : Aside0 (RdAt g s a m w1) := ⟨blk_below H.out hb⟩; have F1 := am (Fr.of_below hb (fun k => k = g)); have NEr := am (show g ≠ gr by have := blk_lt H.out; omega); have GNr := am (show W.heap.size ≤ gr by omega); clear hggr hA hb)
   | ((with_reducible refine gate_dst (N := 7) rfl ?_); refine box_event ?hg (N := 7) ?hd (cs := #[.int .i64 0, .int .i64 0, .int .i64 0, .int .i64 0, .int .i64 0, .slice none 0 0, .slice none 0 0, .slice none 0 0]) (t := 110) ?hr ?_; (case hd => rfl); (case hg => rfl); (case hr => first | (go_simp; done) | (go_simp; rfl)); intro gi hggi w2 hA hb; have K2 := am hA; have Kr2 := am (blk_below Kr1.out hb); have R2 : Aside0 (RdAt g s a m w2) := ⟨blk_below R1.out hb⟩; have F2 := am (F1.out.below hb); have NEi := am (show g ≠ gi by have := blk_lt R1.out; omega); have NEir := am (show gr ≠ gi by have := blk_lt Kr1.out; omega); have GNi := am (show W.heap.size ≤ gi by have := F1.out.size; omega); clear hggi hA hb Kr1 R1 F1)
   | ((with_reducible refine gate_store (p := 7) rfl ?_); refine storeRow_event (g := gi) rfl rfl rfl (cs := #[.int .i64 op, .int .i64 0, .int .i64 0, .int .i64 0, .int .i64 0, .slice none 0 0, .slice none 0 0, .slice none 0 0]) rfl rfl K2.out (by kernel_rfl) rfl (by simp [Value.oneCell']) ?_; intro w3 hA hb ho hs; have K3 := am hA; have Kr3 := am ((ho gr NEir.out).trans Kr2.out); have R3 : Aside0 (RdAt g s a m w3) := ⟨(ho g NEi.out).trans R2.out⟩; have F3 := am (fr_new F2.out (Fr.stored (S := fun k => k = gi) hb ho hs rfl) GNi.out); clear hA hb ho hs K2 Kr2 R2 F2)
   | (go_at_call 75; (with_reducible refine (of_w hk _).mono ?_); rintro e w4 ⟨rfl, hb⟩; have K4 := am (blk_below K3.out hb); have Kr4 := am (blk_below Kr3.out hb); have R4 : Aside0 (RdAt g s a m w4) := ⟨blk_below R3.out hb⟩; have F4 := am (F3.out.below hb); have LI := am (blk_lt K4.out); have LR := am (blk_lt Kr4.out); have W4 := am F4.out.size; clear hb K3 Kr3 R3 F3)
   | (go_at_call 78; (with_reducible refine (block_er (block_calls hl hs R4.out K4.out NEi.out P.out.1 P.out.2.1 P.out.2.2.1 P.out.2.2.2.1 P.out.2.2.2.2.1 P.out.2.2.2.2.2.1 P.out.2.2.2.2.2.2) HU.out).mono ?_); rintro e w9 ⟨rfl, g2⟩; have F9 := am (F4.out.then_ g2 (fun k hk => hk.elim .inl (fun hk => .inr (by rw [hk]; exact GNi.out)))); clear g2))
  exact ⟨rfl, onePost_er rfl ⟨rfl, F9.out⟩⟩
 | ok p =>
  obtain ⟨x, a1, m1⟩ := p
  have HU := am hu
  have HUr := am (True.intro)
  clear hu
  obtain ⟨t, body, els, rfl⟩ := pBlock_x HU.out
  go_enter Tryd.func77, Tryd.ntmps77
  go_wp2_with (first
   | ((with_reducible refine gate_dst (N := 6) rfl ?_); refine box_event ?hg (N := 6) ?hd (cs := #[.int .i64 0, .int .i64 0, .int .i64 0, .int .i64 0, .int .i64 0, .slice none 0 0, .slice none 0 0, .slice none 0 0]) (t := 110) ?hr ?_; (case hd => rfl); (case hg => rfl); (case hr => first | (go_simp; done) | (go_simp; rfl)); intro gr hggr w1 hA hb; have Kr1 := am hA; have R1 : Aside0 (RdAt g s a m w1) := ⟨blk_below H.out hb⟩; have F1 := am (Fr.of_below hb (fun k => k = g)); have NEr := am (show g ≠ gr by have := blk_lt H.out; omega); have GNr := am (show W.heap.size ≤ gr by omega); clear hggr hA hb)
   | ((with_reducible refine gate_dst (N := 7) rfl ?_); refine box_event ?hg (N := 7) ?hd (cs := #[.int .i64 0, .int .i64 0, .int .i64 0, .int .i64 0, .int .i64 0, .slice none 0 0, .slice none 0 0, .slice none 0 0]) (t := 110) ?hr ?_; (case hd => rfl); (case hg => rfl); (case hr => first | (go_simp; done) | (go_simp; rfl)); intro gi hggi w2 hA hb; have K2 := am hA; have Kr2 := am (blk_below Kr1.out hb); have R2 : Aside0 (RdAt g s a m w2) := ⟨blk_below R1.out hb⟩; have F2 := am (F1.out.below hb); have NEi := am (show g ≠ gi by have := blk_lt R1.out; omega); have NEir := am (show gr ≠ gi by have := blk_lt Kr1.out; omega); have GNi := am (show W.heap.size ≤ gi by have := F1.out.size; omega); clear hggi hA hb Kr1 R1 F1)
   | ((with_reducible refine gate_store (p := 7) rfl ?_); refine storeRow_event (g := gi) rfl rfl rfl (cs := #[.int .i64 op, .int .i64 0, .int .i64 0, .int .i64 0, .int .i64 0, .slice none 0 0, .slice none 0 0, .slice none 0 0]) rfl rfl K2.out (by kernel_rfl) rfl (by simp [Value.oneCell']) ?_; intro w3 hA hb ho hs; have K3 := am hA; have Kr3 := am ((ho gr NEir.out).trans Kr2.out); have R3 : Aside0 (RdAt g s a m w3) := ⟨(ho g NEi.out).trans R2.out⟩; have F3 := am (fr_new F2.out (Fr.stored (S := fun k => k = gi) hb ho hs rfl) GNi.out); clear hA hb ho hs K2 Kr2 R2 F2)
   | (go_at_call 75; (with_reducible refine (of_w hk _).mono ?_); rintro e w4 ⟨rfl, hb⟩; have K4 := am (blk_below K3.out hb); have Kr4 := am (blk_below Kr3.out hb); have R4 : Aside0 (RdAt g s a m w4) := ⟨blk_below R3.out hb⟩; have F4 := am (F3.out.below hb); have LI := am (blk_lt K4.out); have LR := am (blk_lt Kr4.out); have W4 := am F4.out.size; clear hb K3 Kr3 R3 F3)
   | (go_at_call 78; (with_reducible refine (block_ok (block_calls hl hs R4.out K4.out NEi.out P.out.1 P.out.2.1 P.out.2.2.1 P.out.2.2.2.1 P.out.2.2.2.2.1 P.out.2.2.2.2.2.1 P.out.2.2.2.2.2.2) HU.out).mono ?_); rintro e w5 ⟨A6, c6, A7, c7, rfl, hK, g3, g4, g1, g2⟩; have K5 := am hK; have R5 := am g1; have L_5 := am g3; have M_5 := am g4; have Kr5 := am (g2.block Kr4.out (fun h => h.elim (fun h => NEr.out h.symm) (fun h => NEir.out h))); have F5 := am (F4.out.then_ g2 (fun k hk => hk.elim .inl (fun hk => .inr (by rw [hk]; exact GNi.out)))); have y0 : w5.cell? ⟨gi, 0, none⟩ = some (.int .i64 op) := blk_cell K5.out 0; have y1 : w5.cell? ⟨gi, 1, none⟩ = some (.int .i64 0) := blk_cell K5.out 1; have y2 : w5.cell? ⟨gi, 2, none⟩ = some (.int .i64 0) := blk_cell K5.out 2; have y3 : w5.cell? ⟨gi, 3, none⟩ = some (.int .i64 0) := blk_cell K5.out 3; have y4 : w5.cell? ⟨gi, 4, none⟩ = some (.int .i64 t) := blk_cell K5.out 4; have y5 : w5.cell? ⟨gi, 5, none⟩ = some (.slice none 0 0) := blk_cell K5.out 5; have y6 : w5.cell? ⟨gi, 6, none⟩ = some (.slice A6 body.length c6) := blk_cell K5.out 6; have y7 : w5.cell? ⟨gi, 7, none⟩ = some (.slice A7 els.length c7) := blk_cell K5.out 7; clear hK g1 g2 g3 g4 K4 Kr4 R4 F4)
   | ((with_reducible refine gate_store (p := 6) rfl ?_); refine storeRow_event (g := gr) rfl rfl rfl (cs := #[.int .i64 op, .int .i64 0, .int .i64 0, .int .i64 0, .int .i64 t, .slice none 0 0, .slice A6 body.length c6, .slice A7 els.length c7]) rfl rfl Kr5.out (by kernel_rfl) rfl (by simp [Value.oneCell']) ?_; intro w6 hA hb ho hs; have Kr6 := am hA; have R6 := am (rd_keep R5.out (ho g NEr.out)); have F6 := am (fr_new F5.out (Fr.stored (S := fun k => k = gr) hb ho hs rfl) GNr.out); have L_6 := am (Kd.R_step L_5.out (fun k hk _ => ho k (ne_ge LR.out hk))); have M_6 := am (Kd.R_step M_5.out (fun k hk _ => ho k (ne_ge LR.out hk))); clear L_5; clear M_5; have q0 : w6.cell? ⟨gr, 0, none⟩ = some (.int .i64 op) := blk_cell Kr6.out 0; have q1 : w6.cell? ⟨gr, 1, none⟩ = some (.int .i64 0) := blk_cell Kr6.out 1; have q2 : w6.cell? ⟨gr, 2, none⟩ = some (.int .i64 0) := blk_cell Kr6.out 2; have q3 : w6.cell? ⟨gr, 3, none⟩ = some (.int .i64 0) := blk_cell Kr6.out 3; have q4 : w6.cell? ⟨gr, 4, none⟩ = some (.int .i64 t) := blk_cell Kr6.out 4; have q5 : w6.cell? ⟨gr, 5, none⟩ = some (.slice none 0 0) := blk_cell Kr6.out 5; have q6 : w6.cell? ⟨gr, 6, none⟩ = some (.slice A6 body.length c6) := blk_cell Kr6.out 6; have q7 : w6.cell? ⟨gr, 7, none⟩ = some (.slice A7 els.length c7) := blk_cell Kr6.out 7; clear hA hb ho hs Kr5 R5 F5))
  exact bodyPost_ret (v := .agg #[.int .i64 op, .int .i64 0, .int .i64 0, .int .i64 0, .int .i64 t, .slice none 0 0, .slice A6 body.length c6, .slice A7 els.length c7]) (by simp [results, Tryd.f77, go_sem, q0, q1, q2, q3, q4, q5, q6, q7]) rfl ⟨_, _, _, rfl, k110_mkM w6 0 _ ⟨op, 0, 0, 0, t, [], body, els⟩ (Kd.R_nil _ _ _ _ _) (Kd.R_mono L_6.out (fun k hk => Nat.le_trans W4.out hk)) (Kd.R_mono M_6.out (fun k hk => Nat.le_trans W4.out hk)), R6.out, F6.out⟩
theorem one_calls {s : ByteArray} {n : Nat} (hl : ListOk s n) (hs : s.size ≤ 140737488355328) {g : Nat} {op a m d : Int} {W : World} (h : RdAt g s a m W) (h0 : 0 ≤ a) (h1 : a ≤ s.size) (hf : (s.size : Int) - a < n) (hm0 : 0 ≤ m) (hm : m ≤ 8192) (hd0 : 0 ≤ d) (hd : d ≤ 33) (hk : ofF op ≠ 0) :
  Calls Tryd.prog 77 #[.pointer (some ⟨g, 0, none⟩), .int .i64 op, .int .i64 d] W (OnePost g s W (pOne s (pList s n) op d a m)) := by
 rcases ofF_rng op with h' | h' | h' | h' | h' | h' | h' | h' | h' | h'
 ·exact absurd h' hk
 ·exact one_1 hl hs h h0 h1 hf hm0 hm hd0 hd h'
 ·exact one_2 hl hs h h0 h1 hf hm0 hm hd0 hd h'
 ·exact one_3 hl hs h h0 h1 hf hm0 hm hd0 hd h'
 ·exact one_4 hl hs h h0 h1 hf hm0 hm hd0 hd h'
 ·exact one_5 hl hs h h0 h1 hf hm0 hm hd0 hd h'
 ·exact one_6 hl hs h h0 h1 hf hm0 hm hd0 hd h'
 ·exact one_7 hl hs h h0 h1 hf hm0 hm hd0 hd h'
 ·exact one_8 hl hs h h0 h1 hf hm0 hm hd0 hd h'
 ·exact one_9 hl hs h h0 h1 hf hm0 hm hd0 hd h'
end Go.Proofs.YtkdoijfjceeblaaDoor.EInstr
namespace Go.Proofs.YtkdoijfjceeblaaDoor.EInstr
open Go Go.RowKit Go.Proofs.YtkdoijfjceeblaaDoor.F Go.Proofs.YtkdoijfjceeblaaDoorW.Hand Go.Proofs.YtkdoijfjceeblaaDoorW.PrintWords Go.Proofs.YtkdoijfjceeblaaDoorW.PrintLast Go.Proofs.YtkdoijfjceeblaaDoorW.PrintMore
open Go.Proofs.YtkdoijfjceeblaaDoor.LebGets (G)
open Go.Proofs.YtkdoijfjceeblaaDoor.LebGetS (GS)
set_option linter.unusedVariables false
set_option linter.unusedSimpArgs false
theorem rd_blk {g : Nat} {s : ByteArray} {a m : Int} {w : World} (h : RdAt g s a m w) : w.heap[g]? = some (.cells #[.string s, .int .i64 a, .int .i64 m] 133 (0, 0)) := h
theorem info44 : (Tryd.prog.info? 110).map (fun i => (i.zero, i.size, i.bytes)) = some (some (.agg #[.int .i64 0, .int .i64 0, .int .i64 0, .int .i64 0, .int .i64 0, .slice none 0 0, .slice none 0 0, .slice none 0 0]), 8, 112) := by kernel_rfl
theorem preL_step {s : ByteArray} {k : Nat} {d a a1 a2 m m2 op : Int} {fol : Bool} {x : S110} (xs : List S110) (h1 : pByte s a = .ok (op, a1)) (h11 : op ≠ 11) (h5 : ¬ (op = 5 ∧ fol = true)) (h0 : ofF op ≠ 0) (hm : ¬ 8192 < m + 1) (hx : pOne s (pList s k) op d a1 (m + 1) = .ok (x, a2, m2)) :
  preL xs (pList s (k + 1) d fol a m) = preL (xs ++ [x]) (pList s k d fol a2 m2) := by
 conv => lhs; rw [pList, h1]
 simp only
 rw [if_neg h11, if_neg h5, if_neg h0, if_neg hm, hx]
 simp only
 cases pList s k d fol a2 m2 with
 | error c => rfl
 | ok p => simp [preL]
theorem preL_one_er {s : ByteArray} {k : Nat} {d a a1 m op c : Int} {fol : Bool} (xs : List S110) (h1 : pByte s a = .ok (op, a1)) (h11 : op ≠ 11) (h5 : ¬ (op = 5 ∧ fol = true)) (h0 : ofF op ≠ 0) (hm : ¬ 8192 < m + 1) (hx : pOne s (pList s k) op d a1 (m + 1) = .error c) :
  preL xs (pList s (k + 1) d fol a m) = .error c := by
 rw [pList, h1]
 simp only
 rw [if_neg h11, if_neg h5, if_neg h0, if_neg hm, hx]
 rfl
theorem preL_er {s : ByteArray} {k : Nat} {d a m c : Int} {fol : Bool} (xs : List S110) (h1 : pByte s a = .error c) : preL xs (pList s (k + 1) d fol a m) = .error c := by
 rw [pList, h1]
 rfl
theorem preL_none {s : ByteArray} {k : Nat} {d a a1 m op : Int} {fol : Bool} (xs : List S110) (h1 : pByte s a = .ok (op, a1)) (h11 : op ≠ 11) (h5 : ¬ (op = 5 ∧ fol = true)) (h0 : ofF op = 0) : preL xs (pList s (k + 1) d fol a m) = .error 1403 := by
 rw [pList, h1]
 simp only
 rw [if_neg h11, if_neg h5, if_pos h0]
 rfl
theorem preL_many {s : ByteArray} {k : Nat} {d a a1 m op : Int} {fol : Bool} (xs : List S110) (h1 : pByte s a = .ok (op, a1)) (h11 : op ≠ 11) (h5 : ¬ (op = 5 ∧ fol = true)) (h0 : ofF op ≠ 0) (hm : 8192 < m + 1) : preL xs (pList s (k + 1) d fol a m) = .error 1400 := by
 rw [pList, h1]
 simp only
 rw [if_neg h11, if_neg h5, if_neg h0, if_pos hm]
 rfl
theorem preL_end {s : ByteArray} {k : Nat} {d a a1 m : Int} {fol : Bool} (xs : List S110) (h1 : pByte s a = .ok (11, a1)) : preL xs (pList s (k + 1) d fol a m) = .ok (xs, false, a1, m) := by
 rw [pList, h1]
 simp [preL]
theorem preL_else {s : ByteArray} {k : Nat} {d a a1 m : Int} (xs : List S110) (h1 : pByte s a = .ok (5, a1)) : preL xs (pList s (k + 1) d true a m) = .ok (xs, true, a1, m) := by
 rw [pList, h1]
 simp [preL]
def RelList (g : Nat) (s : ByteArray) (W : World) (d : Int) (fol : Bool) (a m : Int) (N gk : Nat) (v8 : Value) (wr : World) : Prop :=
 ∃ (xs : List S110) (a1 m1 : Int) (v : Value), v = v8 ∧ gk ≤ N ∧ (0 ≤ a1 ∧ a1 ≤ s.size ∧ (s.size : Int) - a1 < gk ∧ (xs.length : Int) ≤ m1 ∧ m1 ≤ 8192) ∧ k110.R 110 wr 0 (fun k => W.heap.size ≤ k) v xs ∧ RdAt g s a1 m1 wr ∧ Fr W wr (fun k => k = g) ∧ preL xs (pList s gk d fol a1 m1) = pList s N d fol a m
theorem relList_at {g : Nat} {s : ByteArray} {W : World} {d : Int} {fol : Bool} {a m : Int} {N gk : Nat} {v8 : Value} {wr : World} (h : RelList g s W d fol a m N gk v8 wr) : ∃ (k : Nat) (xs : List S110) (a1 m1 : Int) (v : Value), gk = k + 1 ∧ v = v8 ∧ k + 1 ≤ N ∧ (0 ≤ a1 ∧ a1 ≤ s.size ∧ (s.size : Int) - a1 < (k + 1 : Nat) ∧ (xs.length : Int) ≤ m1 ∧ m1 ≤ 8192) ∧ k110.R 110 wr 0 (fun k => W.heap.size ≤ k) v xs ∧ RdAt g s a1 m1 wr ∧ Fr W wr (fun k => k = g) ∧ preL xs (pList s (k + 1) d fol a1 m1) = pList s N d fol a m := by
 obtain ⟨xs, a1, m1, v, h1, h2, h3, h4, h5, h6, h7⟩ := h
 obtain ⟨k, rfl⟩ : ∃ k, gk = k + 1 := ⟨gk - 1, by omega⟩
 exact ⟨k, xs, a1, m1, v, rfl, h1, h2, h3, h4, h5, h6, h7⟩
set_option maxHeartbeats 4000000 in
set_option maxRecDepth 100000 in
theorem list_step {s : ByteArray} (hs : s.size ≤ 140737488355328) (N : Nat) (ih : ∀ n, n < N → ListOk s n) : ListOk s N := by
 intro g W a m d fol h h0 h1 hf hm0 hm hd0 hd
 have H := am h
 have IH := am ih
 have P := am (show 0 ≤ a ∧ a ≤ s.size ∧ (s.size : Int) - a < N ∧ 0 ≤ m ∧ m ≤ 8192 ∧ 0 ≤ d ∧ d ≤ 33 from ⟨h0, h1, hf, hm0, hm, hd0, hd⟩)
 clear h h0 h1 hf hm0 hm ih
 go_enter Tryd.func73, Tryd.ntmps73
 go_wp2
 go_loopg [8] N (fun n v8 wr => RelList g s W d fol a m N n v8 wr)
 case atStart => exact ⟨[], a, m, _, rfl, Nat.le_refl _, ⟨P.out.1, P.out.2.1, P.out.2.2.1, by simpa using P.out.2.2.2.1, P.out.2.2.2.2.1⟩, Kd.R_nil _ _ _ _ _, H.out, Fr.refl _ _, preL_nil _⟩
 case round =>
  obtain ⟨k, xs, a1, m1, v8, rfl, rfl, hN, hA, hO, hR, hF, hE⟩ := relList_at hrel
  have HA := am hA
  have HO := am hO
  have HR := am hR
  have HF := am hF
  have HE := am hE
  have HN := am hN
  clear hrel hA hO hR hF hE hN
  cases hb : pByte s a1 with
  | error c =>
   have HB := am hb
   clear hb
   go_wp2_with (go_at_call 74; (with_reducible refine (as_er (byte_c HR.out HA.out.1 hs) HB.out).mono ?_); rintro e w1 ⟨rfl, g2⟩; have F1 := am (HF.out.then_ g2 (fun k hk => .inl hk)); clear g2)
   exact ⟨rfl, listPost_er (HE.out.symm.trans (preL_er _ HB.out)) ⟨rfl, F1.out⟩⟩
  | ok p =>
   obtain ⟨op, a2⟩ := p
   have hb' := pByte_ok hb
   have HB' := am (show 0 ≤ a2 ∧ a2 ≤ s.size ∧ (s.size : Int) - a2 < k by have := HA.out; omega)
   have HB := am hb
   clear hb hb'
   by_cases h11 : op = 11
   ·subst h11
    have d11 : ((11 : Int) == 11) = true := rfl
    go_wp2_with (go_at_call 74; (with_reducible refine (as_ok (byte_c HR.out HA.out.1 hs) HB.out).mono ?_); rintro e w1 ⟨rfl, g1, g2⟩; have R1 := am g1; have O1 := am (Kd.R_step (Kd.R_types HO.out HR.out (by decide)) (fun k hk hlt => g2.k.2 k hlt hk.2)); have F1 := am (HF.out.then_ g2 (fun k hk => .inl hk)); clear g1 g2 HO HR HF)
    go_ret2
    exact listPost_ok (HE.out.symm.trans (preL_end _ HB.out)) rfl (Kd.R_mono O1.out (fun _ hk => hk.1)) R1.out F1.out
   ·have d11 : (op == 11) = false := beq_eq_false_iff_ne.2 h11
    have H11 := am h11
    clear h11
    by_cases h5 : op = 5 ∧ fol = true
    ·obtain ⟨rfl, rfl⟩ := h5
     have d5 : ((5 : Int) == 5) = true := rfl
     go_wp2_with (go_at_call 74; (with_reducible refine (as_ok (byte_c HR.out HA.out.1 hs) HB.out).mono ?_); rintro e w1 ⟨rfl, g1, g2⟩; have R1 := am g1; have O1 := am (Kd.R_step (Kd.R_types HO.out HR.out (by decide)) (fun k hk hlt => g2.k.2 k hlt hk.2)); have F1 := am (HF.out.then_ g2 (fun k hk => .inl hk)); clear g1 g2 HO HR HF)
     go_ret2
     exact listPost_ok (HE.out.symm.trans (preL_else _ HB.out)) rfl (Kd.R_mono O1.out (fun _ hk => hk.1)) R1.out F1.out
    ·have H5 := am h5
     have d5 : ((op == 5) = true ∧ fol = false) ∨ (op == 5) = false := by
      by_cases h : op = 5
      ·cases fol with
       | true => exact absurd ⟨h, rfl⟩ h5
       | false => exact .inl ⟨by simp [h], rfl⟩
      ·exact .inr (beq_eq_false_iff_ne.2 h)
     clear h5
     have hm0' : (0 : Int) ≤ m1 := by have := HA.out; omega
     have hm1' : m1 ≤ 8192 := HA.out.2.2.2.2
     by_cases hk : ofF op = 0
     ·have e0 : ((0 : Int) == 0) = true := rfl
      have HK := am hk
      rcases d5 with ⟨d5, rfl⟩ | d5
      all_goals
       go_wp2_with (first | (go_at_call 74; (with_reducible refine (as_ok (byte_c HR.out HA.out.1 hs) HB.out).mono ?_); rintro e w1 ⟨rfl, g1, g2⟩; have R1 := am g1; have O1 := am (Kd.R_step (Kd.R_types HO.out HR.out (by decide)) (fun k hk hlt => g2.k.2 k hlt hk.2)); have F1 := am (HF.out.then_ g2 (fun k hk => .inl hk)); clear g1 g2 HO HR HF) | (go_at_call 75; (with_reducible refine (of_w HK.out _).mono ?_); rintro e w2 ⟨rfl, hb⟩; have F2 := am (F1.out.below hb); clear hb) | (go_at_call 76; (with_reducible refine (bad_c _ _).mono ?_); rintro e w' ⟨rfl, rfl⟩))
       exact ⟨rfl, listPost_er (HE.out.symm.trans (preL_none _ HB.out H11.out H5.out HK.out)) ⟨rfl, F2.out⟩⟩
     ·have HK := am hk
      clear hk
      obtain ⟨q, hq⟩ : ∃ q, ofF op = q := ⟨_, rfl⟩
      have eq0 : (q == 0) = false := beq_eq_false_iff_ne.2 (hq ▸ HK.out)
      have HQ := am hq
      clear hq
      by_cases hmm : 8192 < m1 + 1
      ·have dm : decide (m1 + 1 > 8192) = true := decide_eq_true hmm
       have dm2 : decide (8192 < m1 + 1) = true := decide_eq_true hmm
       have HMM := am hmm
       clear hmm
       rcases d5 with ⟨d5, rfl⟩ | d5
       all_goals
        go_wp2_with (first | (go_at_call 74; (with_reducible refine (as_ok (byte_c HR.out HA.out.1 hs) HB.out).mono ?_); rintro e w1 ⟨rfl, g1, g2⟩; have R1 := am g1; have O1 := am (Kd.R_step (Kd.R_types HO.out HR.out (by decide)) (fun k hk hlt => g2.k.2 k hlt hk.2)); have F1 := am (HF.out.then_ g2 (fun k hk => .inl hk)); clear g1 g2 HO HR HF) | (go_at_call 75; (with_reducible refine (of_w HQ.out _).mono ?_); rintro e w2 ⟨rfl, hb⟩; have R2 := am (rd_below R1.out hb); have O2 := am (Kd.R_below O1.out hb); have F2 := am (F1.out.below hb); have c2 : w2.cell? ⟨g, 2, none⟩ = some (.int .i64 m1) := blk_cell R2.out 2; clear hb R1 O1 F1) | ((with_reducible refine gate_store (p := 34) rfl ?_); refine storeCell_event (g := g) (j := 2) (x := .int .i64 (m1 + 1)) rfl rfl rfl rfl rfl (rd_blk R2.out) (by simp) (by kernel_rfl) rfl ?_; intro w3 hA hb ho hs3; have R3 : Aside0 (RdAt g s a2 (m1 + 1) w3) := ⟨hA⟩; have O3 := am (Kd.R_step O2.out (fun k hk _ => ho k hk.2)); have F3 := am (F2.out.then_ (Fr.stored (S := fun k => k = g) hb ho hs3 rfl) (fun k hk => .inl hk)); have c3 : w3.cell? ⟨g, 2, none⟩ = some (.int .i64 (m1 + 1)) := blk_cell hA 2; clear hA hb ho hs3 R2 O2 F2 c2) | (go_at_call 76; (with_reducible refine (bad_c _ _).mono ?_); rintro e w' ⟨rfl, rfl⟩))
        exact ⟨rfl, listPost_er (HE.out.symm.trans (preL_many _ HB.out H11.out H5.out HK.out HMM.out)) ⟨rfl, F3.out⟩⟩
      ·have dm : decide (m1 + 1 > 8192) = false := decide_eq_false hmm
       have dm2 : decide (8192 < m1 + 1) = false := decide_eq_false hmm
       have HMM := am hmm
       have HL := am (IH.out k (by have := HN.out; omega))
       have Q := am (show 0 ≤ a2 ∧ a2 ≤ s.size ∧ (s.size : Int) - a2 < k ∧ 0 ≤ m1 + 1 ∧ m1 + 1 ≤ 8192 by have := HB'.out; omega)
       clear hmm
       cases hx : pOne s (pList s k) op d a2 (m1 + 1) with
       | error c =>
        have HX := am hx
        clear hx
        rcases d5 with ⟨d5, rfl⟩ | d5
        all_goals
         go_wp2_with (first | (go_at_call 74; (with_reducible refine (as_ok (byte_c HR.out HA.out.1 hs) HB.out).mono ?_); rintro e w1 ⟨rfl, g1, g2⟩; have R1 := am g1; have O1 := am (Kd.R_step (Kd.R_types HO.out HR.out (by decide)) (fun k hk hlt => g2.k.2 k hlt hk.2)); have F1 := am (HF.out.then_ g2 (fun k hk => .inl hk)); clear g1 g2 HO HR HF) | (go_at_call 75; (with_reducible refine (of_w HQ.out _).mono ?_); rintro e w2 ⟨rfl, hb⟩; have R2 := am (rd_below R1.out hb); have O2 := am (Kd.R_below O1.out hb); have F2 := am (F1.out.below hb); have c2 : w2.cell? ⟨g, 2, none⟩ = some (.int .i64 m1) := blk_cell R2.out 2; clear hb R1 O1 F1) | ((with_reducible refine gate_store (p := 34) rfl ?_); refine storeCell_event (g := g) (j := 2) (x := .int .i64 (m1 + 1)) rfl rfl rfl rfl rfl (rd_blk R2.out) (by simp) (by kernel_rfl) rfl ?_; intro w3 hA hb ho hs3; have R3 : Aside0 (RdAt g s a2 (m1 + 1) w3) := ⟨hA⟩; have O3 := am (Kd.R_step O2.out (fun k hk _ => ho k hk.2)); have F3 := am (F2.out.then_ (Fr.stored (S := fun k => k = g) hb ho hs3 rfl) (fun k hk => .inl hk)); have c3 : w3.cell? ⟨g, 2, none⟩ = some (.int .i64 (m1 + 1)) := blk_cell hA 2; clear hA hb ho hs3 R2 O2 F2 c2) | (go_at_call 77; (with_reducible refine (one_er (one_calls HL.out hs R3.out Q.out.1 Q.out.2.1 Q.out.2.2.1 Q.out.2.2.2.1 Q.out.2.2.2.2 hd0 hd HK.out) HX.out).mono ?_); rintro e w4 ⟨rfl, g2⟩; have F4 := am (F3.out.then_ g2 (fun k hk => .inl hk)); clear g2))
         exact ⟨rfl, listPost_er (HE.out.symm.trans (preL_one_er _ HB.out H11.out H5.out HK.out (by have := HMM.out; omega) HX.out)) ⟨rfl, F4.out⟩⟩
       | ok p =>
        obtain ⟨x, a3, m3⟩ := p
        have hmon := pOne_mon (pList_mon s k) hx Q.out.1 Q.out.2.1 Q.out.2.2.2.2
        have HX := am hx
        have NX := am (show 0 ≤ a3 ∧ a3 ≤ s.size ∧ (s.size : Int) - a3 < k ∧ (((xs ++ [x]).length : Nat) : Int) ≤ m3 ∧ m3 ≤ 8192 by have := Q.out; have := HA.out; rw [List.length_append, List.length_singleton]; omega)
        have LEN := am (show (xs.length + 1) * 112 ≤ 140737488355328 by have := HA.out; omega)
        clear hx hmon
        rcases d5 with ⟨d5, rfl⟩ | d5
        all_goals
         go_wp2_with (first | (go_at_call 74; (with_reducible refine (as_ok (byte_c HR.out HA.out.1 hs) HB.out).mono ?_); rintro e w1 ⟨rfl, g1, g2⟩; have R1 := am g1; have O1 := am (Kd.R_step (Kd.R_types HO.out HR.out (by decide)) (fun k hk hlt => g2.k.2 k hlt hk.2)); have F1 := am (HF.out.then_ g2 (fun k hk => .inl hk)); clear g1 g2 HO HR HF) | (go_at_call 75; (with_reducible refine (of_w HQ.out _).mono ?_); rintro e w2 ⟨rfl, hb⟩; have R2 := am (rd_below R1.out hb); have O2 := am (Kd.R_below O1.out hb); have F2 := am (F1.out.below hb); have c2 : w2.cell? ⟨g, 2, none⟩ = some (.int .i64 m1) := blk_cell R2.out 2; clear hb R1 O1 F1) | ((with_reducible refine gate_store (p := 34) rfl ?_); refine storeCell_event (g := g) (j := 2) (x := .int .i64 (m1 + 1)) rfl rfl rfl rfl rfl (rd_blk R2.out) (by simp) (by kernel_rfl) rfl ?_; intro w3 hA hb ho hs3; have R3 : Aside0 (RdAt g s a2 (m1 + 1) w3) := ⟨hA⟩; have O3 := am (Kd.R_step O2.out (fun k hk _ => ho k hk.2)); have F3 := am (F2.out.then_ (Fr.stored (S := fun k => k = g) hb ho hs3 rfl) (fun k hk => .inl hk)); have c3 : w3.cell? ⟨g, 2, none⟩ = some (.int .i64 (m1 + 1)) := blk_cell hA 2; clear hA hb ho hs3 R2 O2 F2 c2) | (go_at_call 77; (with_reducible refine (one_ok (one_calls HL.out hs R3.out Q.out.1 Q.out.2.1 Q.out.2.2.1 Q.out.2.2.2.1 Q.out.2.2.2.2 hd0 hd HK.out) HX.out).mono ?_); rintro e w4 ⟨v5, v6, v7, rfl, gM, g1, g2⟩; have M4 := am gM; have R4 := am g1; have O4 := am (Kd.R_step (Kd.R_bound O3.out) (fun k hk hlt => g2.k.2 k hlt hk.1.2)); have F4 := am (F3.out.then_ g2 (fun k hk => .inl hk)); have W3 := am F3.out.size; clear gM g1 g2 R3 O3 F3) | ((with_reducible refine gate_builtin (b := .append) (xs := #[.tmp 41, .tmp 46]) rfl ?_); at_builtin; refine Kd.R_append k110 (w0 := W) 0 rfl (.tmp 41) (.tmp 46) 55 110 (.agg #[.int .i64 0, .int .i64 0, .int .i64 0, .int .i64 0, .int .i64 0, .slice none 0 0, .slice none 0 0, .slice none 0 0]) 112 rfl Tryd.underlying55 info44 rfl (by decide) (by decide) v8 xs x [.int .i64 x.f0, .int .i64 x.f1, .int .i64 x.f2, .int .i64 x.f3, .int .i64 x.f4, v5, v6, v7] (fun k => W.heap.size ≤ k) (fun k => w3.heap.size ≤ k) rfl rfl M4.out ?cO (fun k hk => Nat.le_trans F4.out.size hk) (Kd.R_mono O4.out (fun _ hk => hk.1.1)) F4.out.b (Nat.zero_le _) LEN.out ?_; (case cO => exact fun k hk => ⟨Nat.le_trans W3.out hk, fun e => by have := (O4.out.1 k e.symm).2.2.1; omega⟩); intro v9 w5 ho hb hg hat; have NE := Kd.R_ne O4.out R4.out (by decide); have R5 := am (rd_keep R4.out (hg.block g (blk_lt R4.out) NE)); have F5 := am (F4.out.then_ (Fr.grown hg (S := fun k => W.heap.size ≤ k) (fun k hk => (O4.out.1 k hk).1.1)) (fun k hk => .inr hk)); have O5 := am ho; clear ho hb hg hat NE O4 M4 R4 F4))
         go_roundg k
         case rel => exact ⟨xs ++ [x], a3, m3, _, rfl, Nat.le_of_succ_le HN.out, NX.out, O5.out, R5.out, F5.out, (preL_step xs HB.out H11.out H5.out HK.out (by have := HMM.out; omega) HX.out).symm.trans HE.out⟩
         exact Nat.lt_succ_self k
theorem list_calls {s : ByteArray} (hs : s.size ≤ 140737488355328) (n : Nat) : ListOk s n := by
 induction n using Nat.strongRecOn with
 | ind n ih => exact list_step hs n ih
end Go.Proofs.YtkdoijfjceeblaaDoor.EInstr
namespace Go.Proofs.YtkdoijfjceeblaaDoor.EInstr
open Go Go.RowKit Go.Proofs.YtkdoijfjceeblaaDoor.F Go.Proofs.YtkdoijfjceeblaaDoorW.Hand Go.Proofs.YtkdoijfjceeblaaDoorW.PrintWords Go.Proofs.YtkdoijfjceeblaaDoorW.PrintLast Go.Proofs.YtkdoijfjceeblaaDoorW.PrintMore
open Go.Proofs.YtkdoijfjceeblaaDoor.LebGets (G)
open Go.Proofs.YtkdoijfjceeblaaDoor.LebGetS (GS)
set_option linter.unusedVariables false
set_option linter.unusedSimpArgs false
theorem get1_idle (p0 p1 p2 : Addr) (w : World) :
  CallsD Tryd.prog 72 #[.pointer (some p0), .pointer (some p1), .pointer (some p2)] .returning w fun e u' w' => e = .returned (.tuple #[]) ∧ u' = .returning ∧ w' = w := by
 refine callsD_of_wpS Tryd.func72 rfl fun c₀ cs hu => ?_
 apply wpS_seq
 apply wpS_region
 simp [wpOpsS, go_sem, recoverD, hu, Tryd.ntmps72, Exit.thenS]
 apply wpS_seq
 apply wpS_region
 simp [wpOpsS, go_sem, recoverD, hu, Tryd.ntmps72, Exit.thenS]
 refine wpS_cond (t := false) (by simp [Act.eval, Array.replicate]) ?_
 simp only [Bool.false_eq_true, if_false]
 refine wpS_of_wp (wp_skip ?_)
 cases c₀
 simp_all [bodyPostS, results, Tryd.results72]
theorem wp_calm {P : Program} {c : Code} {K : Act → World → Prop} {Q : Exit → Act → World → Prop} {a : Act} {w : World} (h : c.wp P (Exit.then K (fun _ _ _ => False)) a w) : c.wp P (Exit.then K Q) a w :=
 wp_mono h (fun e a w h => by cases e <;> first | exact h | exact h.elim)
theorem fr_st {w w1 w2 : World} {S S2 : Nat → Prop} (h : Fr w w1 S) (k : Fr w1 w2 S2) (hs : ∀ k, S2 k → S k) : Fr w w2 S := h.then_ k (fun k hk => .inl (hs k hk))
set_option maxHeartbeats 1000000 in
set_option maxRecDepth 100000 in
theorem get1_panic {c : Int} {g4 g5 g6 : Nat} {v4 v5 v6 : Value} (h45 : g4 ≠ g5) (h46 : g4 ≠ g6) (h56 : g5 ≠ g6) (older : List PanicEntry) (w : World) (k4 : w.heap[g4]? = some (.cells #[v4] 55 (0, 0))) (k5 : w.heap[g5]? = some (.cells #[v5] 3 (0, 0))) (k6 : w.heap[g6]? = some (.cells #[v6] 34 (0, 0))) :
  CallsD Tryd.prog 72 #[.pointer (some ⟨g4, 0, none⟩), .pointer (some ⟨g5, 0, none⟩), .pointer (some ⟨g6, 0, none⟩)] (.panicking ({ v := pan c, recovered := false } :: older)) w fun e u' w' => e = .returned (.tuple #[]) ∧ u' = .panicking ({ v := pan c, recovered := true } :: older) ∧
   w'.heap[g4]? = some (.cells #[.slice none 0 0] 55 (0, 0)) ∧ w'.heap[g5]? = some (.cells #[.int .i64 0] 3 (0, 0)) ∧ w'.heap[g6]? = some (.cells #[.int .i64 c] 34 (0, 0)) ∧ Fr w w' (fun k => k = g4 ∨ k = g5 ∨ k = g6) := by
 refine callsD_of_wpS Tryd.func72 rfl fun c₀ cs hu => ?_
 apply wpS_seq
 apply wpS_region
 simp [wpOpsS, go_sem, recoverD, hu, Tryd.ntmps72, Exit.thenS]
 apply wpS_seq
 apply wpS_region
 simp [wpOpsS, go_sem, recoverD, hu, Tryd.ntmps72, Exit.thenS, pan]
 refine wpS_cond (t := true) (by simp [Act.eval, Array.replicate]) ?_
 simp only [if_true]
 refine wpS_of_wp ?_
 simp only [Array.replicate_succ, Array.replicate_zero, List.push_toArray, List.append_toArray, List.nil_append, List.cons_append, List.setIfInBounds_toArray, List.set_cons_zero, List.set_cons_succ]
 have hta : ∀ w : World, (Instr.typeAssert (.iface 129 (.agg #[.int .i64 c])) 20 129 true).run Tryd.prog w = .ok (.tuple #[.agg #[.int .i64 c], .bool true]) w := fun _ => by kernel_rfl
 have K4 := am k4
 have K5 := am k5
 have K6 := am k6
 have N45 := am h45
 have N46 := am h46
 have N56 := am h56
 clear k4 k5 k6 h45 h46 h56
 go_wp2_with (first
  | ((with_reducible refine gate_dst (N := 4) rfl ?_); refine box_event ?hg (N := 4) ?hd (cs := #[.int .i64 0]) (t := 129) ?hr ?_; (case hd => rfl); (case hg => rfl); (case hr => first | (go_simp; done) | (go_simp; rfl)); intro gf hggf w1 hA hb; have KX := am hA; have KA4 := am (blk_below K4.out hb); have KA5 := am (blk_below K5.out hb); have KA6 := am (blk_below K6.out hb); have F1 := am (Fr.of_below hb (fun k => k = g4 ∨ k = g5 ∨ k = g6)); have NF := am (show gf ≠ g4 ∧ gf ≠ g5 ∧ gf ≠ g6 by have := blk_lt K4.out; have := blk_lt K5.out; have := blk_lt K6.out; omega); have GF := am (show w.heap.size ≤ gf by omega); clear hggf hA hb)
  | ((with_reducible refine gate_store (p := 4) rfl ?_); refine storeRow_event (g := gf) rfl rfl rfl (cs := #[.int .i64 c]) rfl rfl KX.out (by kernel_rfl) rfl (by simp [Value.oneCell']) ?_; intro w2 hA hb ho hs; have KAf := am hA; have KA4' := am ((ho g4 (Ne.symm NF.out.1)).trans KA4.out); have KA5' := am ((ho g5 (Ne.symm NF.out.2.1)).trans KA5.out); have KA6' := am ((ho g6 (Ne.symm NF.out.2.2)).trans KA6.out); have F2 := am (fr_new F1.out (Fr.stored (S := fun k => k = gf) hb ho hs rfl) GF.out); clear hA hb ho hs KA4 KA5 KA6 KX; have KA4 := KA4'; have KA5 := KA5'; have KA6 := KA6'; clear KA4' KA5' KA6'))
 refine start_ (n := 5) (S := fun w' => w'.cell? ⟨gf, 0, none⟩ = some (.int .i64 c)) (ds := []) #[false, false, false, false, false] (by kernel_rfl) rfl rfl (blk_cell KAf.out 0) (fun hHeld => ?_)
 refine pu (i := 0) (N := some 17) (v := ?_) (a' := ?_) rfl rfl (by kernel_rfl) (fun _ _ _ h => h) (.inl ⟨by rfl, ?_⟩) ?_ ?_; rotate_left
 ·intro w'; go_simp; with_reducible rfl
 rotate_left; · simp only [Act.put, List.setIfInBounds_toArray, List.set_cons_zero, List.set_cons_succ, i64_w, i32_w]; rfl
 refine tu (i := 1) (N := some 18) (v := ?_) (a' := ?_) rfl rfl (by kernel_rfl) (fun _ _ _ h => h) (.inl ⟨by rfl, ?_⟩) hHeld ?_ ?_; rotate_left
 ·intro w' s0; go_simp; with_reducible rfl
 rotate_left; · simp only [Act.put, List.setIfInBounds_toArray, List.set_cons_zero, List.set_cons_succ, i64_w, i32_w]; rfl
 refine one_ (i := 2) (N := none) #[true, true, true, false, false] rfl rfl (by kernel_rfl) (by decide) (fun K hK => ?_)
 refine storeCell_step (g := g4) (j := 0) (x := .slice none 0 0) (by rfl) rfl rfl rfl rfl KA4.out (by simp) (by kernel_rfl) rfl ?_
 intro w3 hA hb ho hs'
 have KB4 : Aside0 (w3.heap[g4]? = some (.cells #[.slice none 0 0] 55 (0, 0))) := ⟨hA⟩
 have KB5 := am ((ho g5 (Ne.symm N45.out)).trans KA5.out)
 have KB6 := am ((ho g6 (Ne.symm N46.out)).trans KA6.out)
 have KBf := am ((ho gf NF.out.1).trans KAf.out)
 have F3 : Aside0 (Fr w w3 (fun k => k = g4 ∨ k = g5 ∨ k = g6)) := ⟨fr_st F2.out.drew (Fr.stored (S := fun k => k = g4) hb ho hs' rfl) (fun k hk => hk ▸ (by simp))⟩
 clear hA hb ho hs'
 refine hK.out _ _ (blk_cell KBf.out 0) (fun hHeld => ?_)
 clear hK K
 refine one_ (i := 3) (N := none) #[true, true, true, true, false] rfl rfl (by kernel_rfl) (by decide) (fun K hK => ?_)
 refine storeCell_step (g := g5) (j := 0) (x := .int .i64 0) (by rfl) rfl rfl rfl rfl KB5.out (by simp) (by kernel_rfl) rfl ?_
 intro w4 hA hb ho hs'
 have KC5 : Aside0 (w4.heap[g5]? = some (.cells #[.int .i64 0] 3 (0, 0))) := ⟨hA⟩
 have KC4 := am ((ho g4 N45.out).trans KB4.out)
 have KC6 := am ((ho g6 (Ne.symm N56.out)).trans KB6.out)
 have KCf := am ((ho gf NF.out.2.1).trans KBf.out)
 have F4 : Aside0 (Fr w w4 (fun k => k = g4 ∨ k = g5 ∨ k = g6)) := ⟨fr_st F3.out (Fr.stored (S := fun k => k = g5) hb ho hs' rfl) (fun k hk => hk ▸ (by simp))⟩
 clear hA hb ho hs'
 refine hK.out _ _ (blk_cell KCf.out 0) (fun hHeld => ?_)
 clear hK K
 refine one_ (i := 4) (N := none) #[true, true, true, true, true] rfl rfl (by kernel_rfl) (by decide) (fun K hK => ?_)
 refine storeCell_step (g := g6) (j := 0) (x := .int .i64 c) (by rfl) rfl rfl rfl rfl KC6.out (by simp) (by kernel_rfl) rfl ?_
 intro w5 hA hb ho hs'
 have KD6 : Aside0 (w5.heap[g6]? = some (.cells #[.int .i64 c] 34 (0, 0))) := ⟨hA⟩
 have KD4 := am ((ho g4 N46.out).trans KC4.out)
 have KD5 := am ((ho g5 N56.out).trans KC5.out)
 have KDf := am ((ho gf NF.out.2.2).trans KCf.out)
 have F5 : Aside0 (Fr w w5 (fun k => k = g4 ∨ k = g5 ∨ k = g6)) := ⟨fr_st F4.out (Fr.stored (S := fun k => k = g6) hb ho hs' rfl) (fun k hk => hk ▸ (by simp))⟩
 clear hA hb ho hs'
 refine hK.out _ _ (blk_cell KDf.out 0) (fun hHeld => ?_)
 clear hK K
 refine done_ (by kernel_rfl) ?_
 go_wp2
 exact ⟨rfl, _, rfl, .tuple #[], by simp [results, Tryd.results72], rfl, rfl, KD4.out, KD5.out, KD6.out, F5.out⟩
abbrev GRes := Except Int (List S110 × Int)
def pGet (s : ByteArray) (a : Int) : GRes := if a < 0 ∨ s.size < a then .error 1400 else match pList s (s.size + 1) 0 false a 0 with
 | .ok (xs, _, a1, _) => .ok (xs, a1)
 | .error c => .error c
def GetPost (W : World) (r : GRes) (e : Ending) (w' : World) : Prop := match r with
 | .ok (xs, a1) => ∃ A c, e = .returned (.tuple #[.slice A xs.length c, .int .i64 a1, .int .i64 0]) ∧ k110.R 110 w' 0 (fun k => W.heap.size ≤ k) (.slice A xs.length c) xs ∧ Below W.heap.size W w'
 | .error c => e = .returned (.tuple #[.slice none 0 0, .int .i64 0, .int .i64 c]) ∧ Below W.heap.size W w'
theorem getPost_er {W w' : World} {r : GRes} {c : Int} {e : Ending} (h : r = .error c) (he : e = .returned (.tuple #[.slice none 0 0, .int .i64 0, .int .i64 c])) (hF : Fr W w' (fun _ => False)) : GetPost W r e w' := by
 subst h
 exact ⟨he, hF.to_below (fun _ h => h.elim)⟩
set_option maxHeartbeats 2000000 in
set_option maxRecDepth 100000 in
theorem get_calls {s : ByteArray} {a : Int} {W : World} (hs : s.size ≤ 140737488355328) : Calls Tryd.prog 69 #[.string s, .int .i64 a] W (GetPost W (pGet s a)) := by
 have hmf : ∀ (fn : Fn) (first cap : Array Value) (w : World), (Instr.makeFunc fn first cap).run Tryd.prog w = .ok (.func fn first cap) w := fun _ _ _ _ => rfl
 unfold pGet
 by_cases hout : a < 0 ∨ s.size < a
 ·rw [if_pos hout]
  have dd : (decide (a < 0) = true) ∨ (decide (a < 0) = false ∧ decide (a > (s.size : Int)) = true ∧ decide ((s.size : Int) < a) = true) := by
   by_cases h : a < 0
   ·exact .inl (decide_eq_true h)
   ·exact .inr ⟨decide_eq_false h, decide_eq_true (by omega), decide_eq_true (by omega)⟩
  clear hout
  rcases dd with d0 | ⟨d0, d1, d2⟩
  all_goals
   go_enter_defers Tryd.func69, Tryd.ntmps69
   go_wp2_with (first | ((with_reducible refine gate_dst (N := 4) rfl ?_); refine box_event ?hg (N := 4) ?hd (cs := #[.slice none 0 0]) (t := 55) ?hr ?_; (case hd => rfl); (case hg => rfl); (case hr => first | (go_simp; done) | (go_simp; rfl)); intro g4 hgg4 w1 hA hb; have KA4 := am hA; have F1 := am (Fr.of_below hb (fun _ => False)); have GA4 := am (show W.heap.size ≤ g4 by omega); clear hgg4 hA hb) | ((with_reducible refine gate_dst (N := 5) rfl ?_); refine box_event ?hg (N := 5) ?hd (cs := #[.int .i64 0]) (t := 3) ?hr ?_; (case hd => rfl); (case hg => rfl); (case hr => first | (go_simp; done) | (go_simp; rfl)); intro g5 hgg5 w2 hA hb; have KB5 := am hA; have KB4 := am (blk_below KA4.out hb); have F2 := am (F1.out.below hb); have N45 := am (show g4 ≠ g5 by have := blk_lt KA4.out; omega); have GA5 := am (show W.heap.size ≤ g5 by have := F1.out.size; omega); clear hgg5 hA hb KA4 F1) | ((with_reducible refine gate_dst (N := 6) rfl ?_); refine box_event ?hg (N := 6) ?hd (cs := #[.int .i64 0]) (t := 34) ?hr ?_; (case hd => rfl); (case hg => rfl); (case hr => first | (go_simp; done) | (go_simp; rfl)); intro g6 hgg6 w3 hA hb; have KC6 := am hA; have KC4 := am (blk_below KB4.out hb); have KC5 := am (blk_below KB5.out hb); have F3 := am (F2.out.below hb); have N46 := am (show g4 ≠ g6 by have := blk_lt KB4.out; omega); have N56 := am (show g5 ≠ g6 by have := blk_lt KB5.out; omega); have GA6 := am (show W.heap.size ≤ g6 by have := F2.out.size; omega); clear hgg6 hA hb KB4 KB5 F2) | ((with_reducible refine gate_store (p := 4) rfl ?_); refine storeCell_event (g := g4) (j := 0) (x := .slice none 0 0) rfl rfl rfl rfl rfl KC4.out (by simp) (by kernel_rfl) rfl ?_; intro x1 hA hb ho hs; have KD4 : Aside0 (x1.heap[g4]? = some (.cells #[.slice none 0 0] 55 (0, 0))) := ⟨hA⟩; have KD5 := am ((ho g5 (Ne.symm N45.out)).trans KC5.out); have KD6 := am ((ho g6 (Ne.symm N46.out)).trans KC6.out); have Fx1 := am (fr_new F3.out (Fr.stored (S := fun k => k = g4) hb ho hs rfl) GA4.out); clear hA hb ho hs KC4 KC5 KC6 F3) | ((with_reducible refine gate_store (p := 5) rfl ?_); refine storeCell_event (g := g5) (j := 0) (x := .int .i64 0) rfl rfl rfl rfl rfl KD5.out (by simp) (by kernel_rfl) rfl ?_; intro x2 hA hb ho hs; have KE5 : Aside0 (x2.heap[g5]? = some (.cells #[.int .i64 0] 3 (0, 0))) := ⟨hA⟩; have KE4 := am ((ho g4 (N45.out)).trans KD4.out); have KE6 := am ((ho g6 (Ne.symm N56.out)).trans KD6.out); have Fx2 := am (fr_new Fx1.out (Fr.stored (S := fun k => k = g5) hb ho hs rfl) GA5.out); clear hA hb ho hs KD4 KD5 KD6 Fx1) | ((with_reducible refine gate_store (p := 6) rfl ?_); refine storeCell_event (g := g6) (j := 0) (x := .int .i64 1400) rfl rfl rfl rfl rfl KE6.out (by simp) (by kernel_rfl) rfl ?_; intro x3 hA hb ho hs; have KG6 : Aside0 (x3.heap[g6]? = some (.cells #[.int .i64 1400] 34 (0, 0))) := ⟨hA⟩; have KG4 := am ((ho g4 (N46.out)).trans KE4.out); have KG5 := am ((ho g5 (N56.out)).trans KE5.out); have Fx3 := am (fr_new Fx2.out (Fr.stored (S := fun k => k = g6) hb ho hs rfl) GA6.out); clear hA hb ho hs KE4 KE5 KE6 Fx2))
   have y4 : x3.cell? ⟨g4, 0, none⟩ = some (.slice none 0 0) := blk_cell KG4.out 0
   have y5 : x3.cell? ⟨g5, 0, none⟩ = some (.int .i64 0) := blk_cell KG5.out 0
   have y6 : x3.cell? ⟨g6, 0, none⟩ = some (.int .i64 1400) := blk_cell KG6.out 0
   exact ⟨.tuple #[.slice none 0 0, .int .i64 0, .int .i64 1400], by simp [results, Tryd.f69, go_sem, y4, y5, y6], getPost_er rfl rfl Fx3.out⟩
 ·rw [if_neg hout]
  have P := am (show 0 ≤ a ∧ a ≤ s.size ∧ (s.size : Int) - a < (s.size + 1 : Nat) by omega)
  have d0 : decide (a < 0) = false := decide_eq_false (by omega)
  have d1 : decide (a > (s.size : Int)) = false := decide_eq_false (by omega)
  have d2 : decide ((s.size : Int) < a) = false := decide_eq_false (by omega)
  clear hout
  cases hl : pList s (s.size + 1) 0 false a 0 with
  | error c =>
   have HL := am hl
   clear hl
   simp only
   go_enter_defers Tryd.func69, Tryd.ntmps69
   go_wp2_with (first | ((with_reducible refine gate_dst (N := 4) rfl ?_); refine box_event ?hg (N := 4) ?hd (cs := #[.slice none 0 0]) (t := 55) ?hr ?_; (case hd => rfl); (case hg => rfl); (case hr => first | (go_simp; done) | (go_simp; rfl)); intro g4 hgg4 w1 hA hb; have KA4 := am hA; have F1 := am (Fr.of_below hb (fun _ => False)); have GA4 := am (show W.heap.size ≤ g4 by omega); clear hgg4 hA hb) | ((with_reducible refine gate_dst (N := 5) rfl ?_); refine box_event ?hg (N := 5) ?hd (cs := #[.int .i64 0]) (t := 3) ?hr ?_; (case hd => rfl); (case hg => rfl); (case hr => first | (go_simp; done) | (go_simp; rfl)); intro g5 hgg5 w2 hA hb; have KB5 := am hA; have KB4 := am (blk_below KA4.out hb); have F2 := am (F1.out.below hb); have N45 := am (show g4 ≠ g5 by have := blk_lt KA4.out; omega); have GA5 := am (show W.heap.size ≤ g5 by have := F1.out.size; omega); clear hgg5 hA hb KA4 F1) | ((with_reducible refine gate_dst (N := 6) rfl ?_); refine box_event ?hg (N := 6) ?hd (cs := #[.int .i64 0]) (t := 34) ?hr ?_; (case hd => rfl); (case hg => rfl); (case hr => first | (go_simp; done) | (go_simp; rfl)); intro g6 hgg6 w3 hA hb; have KC6 := am hA; have KC4 := am (blk_below KB4.out hb); have KC5 := am (blk_below KB5.out hb); have F3 := am (F2.out.below hb); have N46 := am (show g4 ≠ g6 by have := blk_lt KB4.out; omega); have N56 := am (show g5 ≠ g6 by have := blk_lt KB5.out; omega); have GA6 := am (show W.heap.size ≤ g6 by have := F2.out.size; omega); clear hgg6 hA hb KB4 KB5 F2) | ((with_reducible refine gate_dst (N := 20) rfl ?_); refine box_event ?hg (N := 20) ?hd (cs := #[.string s, .int .i64 a, .int .i64 0]) (t := 133) ?hr ?_; (case hd => rfl); (case hg => rfl); (case hr => first | (go_simp; done) | (go_simp; rfl)); intro g hgg w4 hA hb; have R4 : Aside0 (RdAt g s a 0 w4) := ⟨hA⟩; have KD4 := am (blk_below KC4.out hb); have KD5 := am (blk_below KC5.out hb); have KD6 := am (blk_below KC6.out hb); have F4 := am (F3.out.below hb); have NG := am (show g ≠ g4 ∧ g ≠ g5 ∧ g ≠ g6 by have := blk_lt KC4.out; have := blk_lt KC5.out; have := blk_lt KC6.out; omega); have GAg := am (show W.heap.size ≤ g by have := F3.out.size; omega); clear hgg hA hb KC4 KC5 KC6 F3) | (go_at_call 73; (with_reducible refine (list_er (listOk_at (list_calls hs (s.size + 1)) g w4 a 0 0 false R4.out P.out.1 P.out.2.1 P.out.2.2 (by decide) (by decide) (by decide) (by decide)) HL.out).mono ?_); rintro e w5 ⟨rfl, g2⟩; have KE4 := am (g2.block KD4.out (fun h => NG.out.1 h.symm)); have KE5 := am (g2.block KD5.out (fun h => NG.out.2.1 h.symm)); have KE6 := am (g2.block KD6.out (fun h => NG.out.2.2 h.symm)); have F5 := am (F4.out.then_ g2 (fun k hk => .inr (by rw [hk]; exact GAg.out))); clear g2))
   refine leaves_cons (f := 72) (args := #[.pointer (some ⟨g4, 0, none⟩), .pointer (some ⟨g5, 0, none⟩), .pointer (some ⟨g6, 0, none⟩)]) (by simp) (by simp [go_sem]) ?_
   refine (get1_panic N45.out N46.out N56.out [] _ KE4.out KE5.out KE6.out).mono ?_
   rintro e u' w'' ⟨rfl, rfl, h4, h5, h6, hF⟩
   have y4 : w''.cell? ⟨g4, 0, none⟩ = some (.slice none 0 0) := blk_cell h4 0
   have y5 : w''.cell? ⟨g5, 0, none⟩ = some (.int .i64 0) := blk_cell h5 0
   have y6 : w''.cell? ⟨g6, 0, none⟩ = some (.int .i64 c) := blk_cell h6 0
   refine ⟨.tuple #[.slice none 0 0, .int .i64 0, .int .i64 c], by simp [results, Tryd.f69, go_sem, y4, y5, y6], getPost_er rfl rfl (F5.out.then_ hF (fun k hk => .inr ?_))⟩
   have := GA4.out
   have := GA5.out
   have := GA6.out
   rcases hk with hk | hk | hk <;> omega
  | ok p =>
   obtain ⟨xs, b, a1, m1⟩ := p
   have HL := am hl
   clear hl
   simp only
   go_enter_defers Tryd.func69, Tryd.ntmps69
   go_wp2_with (first | ((with_reducible refine gate_dst (N := 4) rfl ?_); refine box_event ?hg (N := 4) ?hd (cs := #[.slice none 0 0]) (t := 55) ?hr ?_; (case hd => rfl); (case hg => rfl); (case hr => first | (go_simp; done) | (go_simp; rfl)); intro g4 hgg4 w1 hA hb; have KA4 := am hA; have F1 := am (Fr.of_below hb (fun _ => False)); have GA4 := am (show W.heap.size ≤ g4 by omega); clear hgg4 hA hb) | ((with_reducible refine gate_dst (N := 5) rfl ?_); refine box_event ?hg (N := 5) ?hd (cs := #[.int .i64 0]) (t := 3) ?hr ?_; (case hd => rfl); (case hg => rfl); (case hr => first | (go_simp; done) | (go_simp; rfl)); intro g5 hgg5 w2 hA hb; have KB5 := am hA; have KB4 := am (blk_below KA4.out hb); have F2 := am (F1.out.below hb); have N45 := am (show g4 ≠ g5 by have := blk_lt KA4.out; omega); have GA5 := am (show W.heap.size ≤ g5 by have := F1.out.size; omega); clear hgg5 hA hb KA4 F1) | ((with_reducible refine gate_dst (N := 6) rfl ?_); refine box_event ?hg (N := 6) ?hd (cs := #[.int .i64 0]) (t := 34) ?hr ?_; (case hd => rfl); (case hg => rfl); (case hr => first | (go_simp; done) | (go_simp; rfl)); intro g6 hgg6 w3 hA hb; have KC6 := am hA; have KC4 := am (blk_below KB4.out hb); have KC5 := am (blk_below KB5.out hb); have F3 := am (F2.out.below hb); have N46 := am (show g4 ≠ g6 by have := blk_lt KB4.out; omega); have N56 := am (show g5 ≠ g6 by have := blk_lt KB5.out; omega); have GA6 := am (show W.heap.size ≤ g6 by have := F2.out.size; omega); clear hgg6 hA hb KB4 KB5 F2) | ((with_reducible refine gate_dst (N := 20) rfl ?_); refine box_event ?hg (N := 20) ?hd (cs := #[.string s, .int .i64 a, .int .i64 0]) (t := 133) ?hr ?_; (case hd => rfl); (case hg => rfl); (case hr => first | (go_simp; done) | (go_simp; rfl)); intro g hgg w4 hA hb; have R4 : Aside0 (RdAt g s a 0 w4) := ⟨hA⟩; have KD4 := am (blk_below KC4.out hb); have KD5 := am (blk_below KC5.out hb); have KD6 := am (blk_below KC6.out hb); have F4 := am (F3.out.below hb); have NG := am (show g ≠ g4 ∧ g ≠ g5 ∧ g ≠ g6 by have := blk_lt KC4.out; have := blk_lt KC5.out; have := blk_lt KC6.out; omega); have GAg := am (show W.heap.size ≤ g by have := F3.out.size; omega); clear hgg hA hb KC4 KC5 KC6 F3) | (go_at_call 73; (with_reducible refine (list_ok (listOk_at (list_calls hs (s.size + 1)) g w4 a 0 0 false R4.out P.out.1 P.out.2.1 P.out.2.2 (by decide) (by decide) (by decide) (by decide)) HL.out).mono ?_); rintro e w5 ⟨A, c, rfl, gL, g1, g2⟩; have R5 := am g1; have L5 := am gL; have WW := am F4.out.size; have LT := am (show g4 < w4.heap.size ∧ g5 < w4.heap.size ∧ g6 < w4.heap.size ∧ g < w4.heap.size from ⟨blk_lt KD4.out, blk_lt KD5.out, blk_lt KD6.out, blk_lt R4.out⟩); have KE4 := am (g2.block KD4.out (fun h => NG.out.1 h.symm)); have KE5 := am (g2.block KD5.out (fun h => NG.out.2.1 h.symm)); have KE6 := am (g2.block KD6.out (fun h => NG.out.2.2 h.symm)); have F5 := am (F4.out.then_ g2 (fun k hk => .inr (by rw [hk]; exact GAg.out))); clear g1 g2 gL R4 KD4 KD5 KD6 F4) | ((with_reducible refine gate_store (p := 4) rfl ?_); refine storeCell_event (g := g4) (j := 0) (x := .slice A xs.length c) rfl rfl rfl rfl rfl KE4.out (by simp) (by kernel_rfl) rfl ?_; intro w6 hA hb ho hs; have KG4 : Aside0 (w6.heap[g4]? = some (.cells #[.slice A xs.length c] 55 (0, 0))) := ⟨hA⟩; have KG5 := am ((ho g5 (Ne.symm N45.out)).trans KE5.out); have KG6 := am ((ho g6 (Ne.symm N46.out)).trans KE6.out); have Fw6 := am (fr_new F5.out (Fr.stored (S := fun k => k = g4) hb ho hs rfl) GA4.out); have R6 := am (rd_keep R5.out (ho g NG.out.1)); have L6 := am (Kd.R_step L5.out (fun k hk _ => ho k (ne_ge LT.out.1 hk))); clear R5 L5; clear hA hb ho hs KE4 KE5 KE6 F5))
   refine wp_calm ?_
   refine start_ (n := 8) (S := fun w' => w'.cell? ⟨g4, 0, none⟩ = some (.slice A xs.length c) ∧ w'.cell? ⟨g, 1, none⟩ = some (.int .i64 a1)) (ds := []) #[false, false, false, false, false, false, false, false] (by kernel_rfl) rfl rfl ⟨blk_cell KG4.out 0, blk_cell R6.out 1⟩ (fun hHeld => ?_)
   refine pu (i := 1) (N := some 27) (v := ?_) (a' := ?_) rfl rfl (by kernel_rfl) (fun _ _ _ h => h) (.inl ⟨by rfl, ?_⟩) ?_ ?_; rotate_left
   ·intro w'; go_simp; with_reducible rfl
   rotate_left; · simp only [Act.put, List.setIfInBounds_toArray, List.set_cons_zero, List.set_cons_succ, i64_w, i32_w]; rfl
   refine pu (i := 2) (N := some 28) (v := ?_) (a' := ?_) rfl rfl (by kernel_rfl) (fun _ _ _ h => h) (.inl ⟨by rfl, ?_⟩) ?_ ?_; rotate_left
   ·intro w'; go_simp; with_reducible rfl
   rotate_left; · simp only [Act.put, List.setIfInBounds_toArray, List.set_cons_zero, List.set_cons_succ, i64_w, i32_w]; rfl
   refine pu (i := 3) (N := some 29) (v := ?_) (a' := ?_) rfl rfl (by kernel_rfl) (fun _ _ _ h => h) (.inl ⟨by rfl, ?_⟩) ?_ ?_; rotate_left
   ·intro w'; go_simp; with_reducible rfl
   rotate_left; · simp only [Act.put, List.setIfInBounds_toArray, List.set_cons_zero, List.set_cons_succ, i64_w, i32_w]; rfl
   refine tu (i := 0) (N := some 26) (v := ?_) (a' := ?_) rfl rfl (by kernel_rfl) (fun _ _ _ h => h) (.inl ⟨by rfl, ?_⟩) hHeld ?_ ?_; rotate_left
   ·rintro w' ⟨s0, s1⟩; go_simp; with_reducible rfl
   rotate_left; · simp only [Act.put, List.setIfInBounds_toArray, List.set_cons_zero, List.set_cons_succ, i64_w, i32_w]; rfl
   refine tu (i := 4) (N := some 30) (v := ?_) (a' := ?_) rfl rfl (by kernel_rfl) (fun _ _ _ h => h) (.inl ⟨by rfl, ?_⟩) hHeld ?_ ?_; rotate_left
   ·rintro w' ⟨s0, s1⟩; go_simp; with_reducible rfl
   rotate_left; · simp only [Act.put, List.setIfInBounds_toArray, List.set_cons_zero, List.set_cons_succ, i64_w, i32_w]; rfl
   refine one_ (i := 5) (N := none) #[true, true, true, true, true, true, false, false] rfl rfl (by kernel_rfl) (by decide) (fun K hK => ?_)
   refine storeCell_step (g := g4) (j := 0) (x := .slice A xs.length c) (by rfl) rfl rfl rfl rfl KG4.out (by simp) (by kernel_rfl) rfl ?_
   intro w7 hA hb ho hs'
   have KH4 : Aside0 (w7.heap[g4]? = some (.cells #[.slice A xs.length c] 55 (0, 0))) := ⟨hA⟩
   have KH5 := am ((ho g5 (Ne.symm N45.out)).trans KG5.out)
   have KH6 := am ((ho g6 (Ne.symm N46.out)).trans KG6.out)
   have R7 := am (rd_keep R6.out (ho g NG.out.1))
   have L7 := am (Kd.R_step L6.out (fun k hk _ => ho k (ne_ge LT.out.1 hk)))
   have Fw7 := am (fr_new Fw6.out.drew (Fr.stored (S := fun k => k = g4) hb ho hs' rfl) GA4.out)
   clear hA hb ho hs'
   refine hK.out _ _ ⟨blk_cell KH4.out 0, blk_cell R7.out 1⟩ (fun hHeld => ?_)
   clear hK K
   refine one_ (i := 6) (N := none) #[true, true, true, true, true, true, true, false] rfl rfl (by kernel_rfl) (by decide) (fun K hK => ?_)
   refine storeCell_step (g := g5) (j := 0) (x := .int .i64 a1) (by rfl) rfl rfl rfl rfl KH5.out (by simp) (by kernel_rfl) rfl ?_
   intro w8 hA hb ho hs'
   have KI5 : Aside0 (w8.heap[g5]? = some (.cells #[.int .i64 a1] 3 (0, 0))) := ⟨hA⟩
   have KI4 := am ((ho g4 (N45.out)).trans KH4.out)
   have KI6 := am ((ho g6 (Ne.symm N56.out)).trans KH6.out)
   have R8 := am (rd_keep R7.out (ho g NG.out.2.1))
   have L8 := am (Kd.R_step L7.out (fun k hk _ => ho k (ne_ge LT.out.2.1 hk)))
   have Fw8 := am (fr_new Fw7.out (Fr.stored (S := fun k => k = g5) hb ho hs' rfl) GA5.out)
   clear hA hb ho hs'
   refine hK.out _ _ ⟨blk_cell KI4.out 0, blk_cell R8.out 1⟩ (fun hHeld => ?_)
   clear hK K
   refine one_ (i := 7) (N := none) #[true, true, true, true, true, true, true, true] rfl rfl (by kernel_rfl) (by decide) (fun K hK => ?_)
   refine storeCell_step (g := g6) (j := 0) (x := .int .i64 0) (by rfl) rfl rfl rfl rfl KI6.out (by simp) (by kernel_rfl) rfl ?_
   intro w9 hA hb ho hs'
   have KJ6 : Aside0 (w9.heap[g6]? = some (.cells #[.int .i64 0] 34 (0, 0))) := ⟨hA⟩
   have KJ4 := am ((ho g4 (N46.out)).trans KI4.out)
   have KJ5 := am ((ho g5 (N56.out)).trans KI5.out)
   have R9 := am (rd_keep R8.out (ho g NG.out.2.2))
   have L9 := am (Kd.R_step L8.out (fun k hk _ => ho k (ne_ge LT.out.2.2.1 hk)))
   have F9 := am (fr_new Fw8.out (Fr.stored (S := fun k => k = g6) hb ho hs' rfl) GA6.out)
   clear hA hb ho hs'
   refine hK.out _ _ ⟨blk_cell KJ4.out 0, blk_cell R9.out 1⟩ (fun hHeld => ?_)
   clear hK K
   refine done_ (by kernel_rfl) ?_
   go_wp2
   refine leaves_cons (f := 72) (args := #[.pointer (some ⟨g4, 0, none⟩), .pointer (some ⟨g5, 0, none⟩), .pointer (some ⟨g6, 0, none⟩)]) (by simp) (by simp [go_sem]) ?_
   refine (get1_idle _ _ _ _).mono ?_
   rintro e u' w'' ⟨rfl, rfl, rfl⟩
   have y4 : w''.cell? ⟨g4, 0, none⟩ = some (.slice A xs.length c) := blk_cell KJ4.out 0
   have y5 : w''.cell? ⟨g5, 0, none⟩ = some (.int .i64 a1) := blk_cell KJ5.out 0
   have y6 : w''.cell? ⟨g6, 0, none⟩ = some (.int .i64 0) := blk_cell KJ6.out 0
   exact ⟨.tuple #[.slice A xs.length c, .int .i64 a1, .int .i64 0], by simp [results, Tryd.f69, go_sem, y4, y5, y6], A, c, rfl, Kd.R_mono L9.out (fun k hk => Nat.le_trans WW.out hk), F9.out.to_below (fun _ h => h.elim)⟩
end Go.Proofs.YtkdoijfjceeblaaDoor.EInstr
