/-
  What the claim leans on, cut to what is used (wip/tools/prune15.py): words, printed functions, walks.
-/
import Derived.Test.YtkdoijfjceeblaaDoorQEDec9
import Derived.Defers
import Derived.Recover
import Derived.RecoverIn
import Derived.Tactics2
import Derived.Laws.Pointers
namespace Go.Proofs.YtkdoijfjceeblaaDoor.EDec
open Go Go.RowKit Go.Proofs.YtkdoijfjceeblaaDoor.F Go.Proofs.YtkdoijfjceeblaaDoorW.Hand Go.Proofs.YtkdoijfjceeblaaDoorW.PrintWords Go.Proofs.YtkdoijfjceeblaaDoorW.PrintLast Go.Proofs.YtkdoijfjceeblaaDoorW.PrintMore
open Go.Proofs.YtkdoijfjceeblaaDoor.LebGets (G)
open Go.Proofs.YtkdoijfjceeblaaDoor.ENames (Tabs tabs_below nget nmay)
open Go.Proofs.YtkdoijfjceeblaaDoor.EInstr (GRes pGet get_b ret_int wrap_bt)
set_option linter.unusedVariables false
set_option linter.unusedSimpArgs false
theorem fr_st {w w1 w2 : World} {S S2 : Nat → Prop} (h : Fr w w1 S) (k : Fr w1 w2 S2) (hs : ∀ k, S2 k → S k) : Fr w w2 S := h.then_ k (fun k hk => .inl (hs k hk))
theorem mod1_idle (n : Nat) (p0 p1 : Addr) (w : World) :
  CallsDIn Fence.wide n Tryd.prog 22 #[.pointer (some p0), .pointer (some p1)] .returning w fun e u' w' => e = .returned (.tuple #[]) ∧ u' = .returning ∧ w' = w := by
 refine callsDIn_of_wpSIn Tryd.func22 rfl trivial fun c₀ cs hu => ?_
 apply wpSIn_seq
 apply wpSIn_region
 simp [wpOpsSIn, go_sem, recoverD, hu, Tryd.ntmps22, Exit.thenS, Oper.about]
 apply wpSIn_seq
 apply wpSIn_region
 simp [wpOpsSIn, go_sem, recoverD, hu, Tryd.ntmps22, Exit.thenS, Oper.about]
 refine wpSIn_cond (t := false) (by simp [Act.eval, Array.replicate]) ?_
 simp only [Bool.false_eq_true, if_false]
 refine wpSIn_of_wpIn rfl (wpIn_skip ?_)
 cases c₀
 simp_all [bodyPostS, results, Tryd.results22]
set_option maxHeartbeats 1000000 in
set_option maxRecDepth 100000 in
theorem mod1_panic (n : Nat) {c : Int} {g2 g3 : Nat} {v0 v1 v2 v3 v4 v5 v6 v7 v8 v9 v10 v11 : Value} (h23 : g2 ≠ g3) (older : List PanicEntry) (w : World) (k2 : w.heap[g2]? = some (.cells #[v0, v1, v2, v3, v4, v5, v6, v7, v8, v9, v10] 33 (0, 0))) (k3 : w.heap[g3]? = some (.cells #[v11] 34 (0, 0))) :
  CallsDIn Fence.wide n Tryd.prog 22 #[.pointer (some ⟨g2, 0, none⟩), .pointer (some ⟨g3, 0, none⟩)] (.panicking ({ v := panD c, recovered := false } :: older)) w fun e u' w' => e = .returned (.tuple #[]) ∧ u' = .panicking ({ v := panD c, recovered := true } :: older) ∧
   w'.heap[g2]? = some (.cells #[.slice none 0 0, .slice none 0 0, .slice none 0 0, .slice none 0 0, .slice none 0 0, .slice none 0 0, .slice none 0 0, .int .i64 0, .slice none 0 0, .slice none 0 0, .slice none 0 0] 33 (0, 0)) ∧ w'.heap[g3]? = some (.cells #[.int .i64 c] 34 (0, 0)) ∧ Fr w w' (fun k => k = g2 ∨ k = g3) := by
 refine callsDIn_of_wpSIn Tryd.func22 rfl trivial fun c₀ cs hu => ?_
 apply wpSIn_seq
 apply wpSIn_region
 simp [wpOpsSIn, go_sem, recoverD, hu, Tryd.ntmps22, Exit.thenS, Oper.about]
 apply wpSIn_seq
 apply wpSIn_region
 simp [wpOpsSIn, go_sem, recoverD, hu, Tryd.ntmps22, Exit.thenS, Oper.about, panD]
 refine wpSIn_cond (t := true) (by simp [Act.eval, Array.replicate]) ?_
 simp only [if_true]
 refine wpSIn_of_wpIn rfl (wpIn_wide.2 ?_)
 simp only [Array.replicate_succ, Array.replicate_zero, List.push_toArray, List.append_toArray, List.nil_append, List.cons_append, List.setIfInBounds_toArray, List.set_cons_zero, List.set_cons_succ]
 have hta : ∀ w : World, (Instr.typeAssert (.iface 59 (.agg #[.int .i64 c])) 20 59 true).run Tryd.prog w = .ok (.tuple #[.agg #[.int .i64 c], .bool true]) w := fun _ => by kernel_rfl
 have K2 := am k2
 have K3 := am k3
 have N23 := am h23
 clear k2 k3 h23
 go_wp2_with (first
  | ((with_reducible refine gate_dst (N := 3) rfl ?_); refine box_event ?hg (N := 3) ?hd (cs := #[.int .i64 0]) (t := 59) ?hr ?_; (case hd => rfl); (case hg => rfl); (case hr => first | (go_simp; done) | (go_simp; rfl)); intro gf hggf w1 hA hb; have KX := am hA; have KA2 := am (blk_below K2.out hb); have KA3 := am (blk_below K3.out hb); have F1 := am (Fr.of_below hb (fun k => k = g2 ∨ k = g3)); have NF := am (show gf ≠ g2 ∧ gf ≠ g3 by have := blk_lt K2.out; have := blk_lt K3.out; omega); have GF := am (show w.heap.size ≤ gf by omega); clear hggf hA hb)
  | ((with_reducible refine gate_store (p := 3) rfl ?_); refine storeRow_event (g := gf) rfl rfl rfl (cs := #[.int .i64 c]) rfl rfl KX.out (by kernel_rfl) rfl (by simp [Value.oneCell']) ?_; intro w2 hA hb ho hs; have KAf := am hA; have KA2' := am ((ho g2 (Ne.symm NF.out.1)).trans KA2.out); have KA3' := am ((ho g3 (Ne.symm NF.out.2)).trans KA3.out); have F2 := am (fr_new F1.out (Fr.stored (S := fun k => k = gf) hb ho hs rfl) GF.out); clear hA hb ho hs KA2 KA3 KX; have KA2 := KA2'; have KA3 := KA3'; clear KA2' KA3'))
 refine start_ (n := 5) (S := fun w' => w'.cell? ⟨gf, 0, none⟩ = some (.int .i64 c)) (ds := []) #[false, false, false, false, false] (by kernel_rfl) rfl rfl (blk_cell KAf.out 0) (fun hHeld => ?_)
 refine pu (i := 0) (N := some 16) (v := ?_) (a' := ?_) rfl rfl (by kernel_rfl) (fun _ _ _ h => h) (.inl ⟨by rfl, ?_⟩) ?_ ?_; rotate_left
 ·intro w'; go_simp; with_reducible rfl
 rotate_left; · simp only [Act.put, List.setIfInBounds_toArray, List.set_cons_zero, List.set_cons_succ, i64_w, i32_w]; rfl
 refine pu (i := 1) (N := some 17) (v := ?_) (a' := ?_) rfl rfl (by kernel_rfl) (fun _ _ _ h => h) (.inl ⟨by rfl, ?_⟩) ?_ ?_; rotate_left
 ·intro w'; go_simp; with_reducible rfl
 rotate_left; · simp only [Act.put, List.setIfInBounds_toArray, List.set_cons_zero, List.set_cons_succ, i64_w, i32_w]; rfl
 refine tu (i := 2) (N := some 18) (v := ?_) (a' := ?_) rfl rfl (by kernel_rfl) (fun _ _ _ h => h) (.inl ⟨by rfl, ?_⟩) hHeld ?_ ?_; rotate_left
 ·intro w' s0; go_simp; with_reducible rfl
 rotate_left; · simp only [Act.put, List.setIfInBounds_toArray, List.set_cons_zero, List.set_cons_succ, i64_w, i32_w]; rfl
 refine one_ (i := 3) (N := none) #[true, true, true, true, false] rfl rfl (by kernel_rfl) (by decide) (fun K hK => ?_)
 refine storeRow_step (g := g2) (cs := #[.slice none 0 0, .slice none 0 0, .slice none 0 0, .slice none 0 0, .slice none 0 0, .slice none 0 0, .slice none 0 0, .int .i64 0, .slice none 0 0, .slice none 0 0, .slice none 0 0]) (by rfl) rfl rfl rfl rfl KA2.out (by kernel_rfl) rfl (by simp [Value.oneCell']) ?_
 intro w3 hA hb ho hs'
 have KB2 : Aside0 (w3.heap[g2]? = some (.cells #[.slice none 0 0, .slice none 0 0, .slice none 0 0, .slice none 0 0, .slice none 0 0, .slice none 0 0, .slice none 0 0, .int .i64 0, .slice none 0 0, .slice none 0 0, .slice none 0 0] 33 (0, 0))) := ⟨hA⟩
 have KB3 := am ((ho g3 (Ne.symm N23.out)).trans KA3.out)
 have KBf := am ((ho gf NF.out.1).trans KAf.out)
 have F3 : Aside0 (Fr w w3 (fun k => k = g2 ∨ k = g3)) := ⟨fr_st F2.out.drew (Fr.stored (S := fun k => k = g2) hb ho hs' rfl) (fun k hk => .inl hk)⟩
 clear hA hb ho hs'
 refine hK.out _ _ (blk_cell KBf.out 0) (fun hHeld => ?_)
 clear hK K
 refine one_ (i := 4) (N := none) #[true, true, true, true, true] rfl rfl (by kernel_rfl) (by decide) (fun K hK => ?_)
 refine storeCell_step (g := g3) (j := 0) (x := .int .i64 c) (by rfl) rfl rfl rfl rfl KB3.out (by simp) (by kernel_rfl) rfl ?_
 intro w4 hA hb ho hs'
 have KC3 : Aside0 (w4.heap[g3]? = some (.cells #[.int .i64 c] 34 (0, 0))) := ⟨hA⟩
 have KC2 := am ((ho g2 N23.out).trans KB2.out)
 have KCf := am ((ho gf NF.out.2).trans KBf.out)
 have F4 : Aside0 (Fr w w4 (fun k => k = g2 ∨ k = g3)) := ⟨fr_st F3.out (Fr.stored (S := fun k => k = g3) hb ho hs' rfl) (fun k hk => .inr hk)⟩
 clear hA hb ho hs'
 refine hK.out _ _ (blk_cell KCf.out 0) (fun hHeld => ?_)
 clear hK K
 refine done_ (by kernel_rfl) ?_
 go_wp2
 exact ⟨rfl, _, rfl, .tuple #[], by simp [results, Tryd.results22], rfl, rfl, KC2.out, KC3.out, F4.out⟩
end Go.Proofs.YtkdoijfjceeblaaDoor.EDec
