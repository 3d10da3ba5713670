/-
  What the claim leans on, cut to what is used (wip/tools/prune15.py): words, printed functions, walks.
-/
import Derived.Test.YtkdoijfjceeblaaDoorQE15C
import Derived.Test.YtkdoijfjceeblaaDoorQE15E
import Derived.Test.YtkdoijfjceeblaaDoorQF2
section
namespace Go.Proofs.YtkdoijfjceeblaaDoor.EDec
open Go Go.RowKit Go.Proofs.YtkdoijfjceeblaaDoor.F Go.Proofs.YtkdoijfjceeblaaDoorW.Hand Go.Proofs.YtkdoijfjceeblaaDoorW.PrintWords Go.Proofs.YtkdoijfjceeblaaDoorW.PrintLast Go.Proofs.YtkdoijfjceeblaaDoorW.PrintMore
open Go.Proofs.YtkdoijfjceeblaaDoor.LebGets (G)
open Go.Proofs.YtkdoijfjceeblaaDoor.ENames (Tabs tabs_below nget nmay)
open Go.Proofs.YtkdoijfjceeblaaDoor.EInstr (GRes pGet get_b ret_int wrap_bt)
set_option linter.unusedVariables false
set_option linter.unusedSimpArgs false
abbrev PR (α : Type) := Except Int (α × Int)
def bnd {α β : Type} (r : PR α) (f : α → Int → PR β) : PR β := match r with
 | .ok (x, a) => f x a
 | .error c => .error c
theorem bnd_ok {α β : Type} {r : PR α} {f : α → Int → PR β} {x : α} {a : Int} (h : r = .ok (x, a)) : bnd r f = f x a := by rw [h]; rfl
theorem bnd_er {α β : Type} {r : PR α} {f : α → Int → PR β} {c : Int} (h : r = .error c) : bnd r f = .error c := by rw [h]; rfl
def dOct (s : ByteArray) (a : Int) : PR Int := if a < s.size then .ok (bt s a, a + 1) else .error 1506
def dNum (s : ByteArray) (a : Int) : PR Int := if (G s a 32).2.2 = 0 then .ok ((G s a 32).1, (G s a 32).2.1) else .error 1506
def dFlag (s : ByteArray) (a : Int) : PR Bool := bnd (dOct s a) fun x a1 => if x ≤ 1 then .ok (x == 1, a1) else .error 1506
def dExact (s : ByteArray) (x a : Int) : PR Unit := bnd (dOct s a) fun y a1 => if y = x then .ok ((), a1) else .error 1506
def dBytes (s : ByteArray) (n a : Int) : PR ByteArray := if n ≤ (s.size : Int) - a then .ok (s.extract a.toNat (a + n).toNat, a + n) else .error 1506
def dName (s : ByteArray) (a : Int) : PR ByteArray := if (nget s a).2.2 = 1301 then .error 1508 else if (nget s a).2.2 = 0 then .ok ((nget s a).1, (nget s a).2.1) else .error 1506
def valB (t : Int) : Bool := decide (124 ≤ t ∧ t ≤ 127)
def dValue (s : ByteArray) (a : Int) : PR Int := bnd (dOct s a) fun t a1 => if valB t = true then .ok (t, a1) else .error 1506
def dLimits (s : ByteArray) (a : Int) : PR S54 := bnd (dFlag s a) fun has a1 => bnd (dNum s a1) fun x a2 => if has = true then bnd (dNum s a2) fun y a3 => .ok (⟨x, y⟩, a3) else .ok (⟨x, -1⟩, a2)
def dInstrs (s : ByteArray) (a : Int) : PR (List S110) := match pGet s a with
 | .ok (xs, a1) => .ok (xs, a1)
 | .error c => if c = 1402 then .error 1507 else if c = 0 then .ok ([], 0) else .error 1506
def dRep {α : Type} (p : Int → PR α) : Nat → Int → PR (List α)
 | 0, a => .ok ([], a)
 | k + 1, a => bnd (p a) fun x a1 => bnd (dRep p k a1) fun xs a2 => .ok (x :: xs, a2)
def dList {α : Type} (s : ByteArray) (most : Int) (p : Int → PR α) (a : Int) : PR (List α) := bnd (dNum s a) fun n a1 => if n ≤ most then dRep p n.toNat a1 else .error 1508
def dNought (s : ByteArray) (a : Int) : PR Unit := bnd (dNum s a) fun x a1 => if x = 0 then .ok ((), a1) else .error 1506
def dFuncType (s : ByteArray) (a : Int) : PR S51 := bnd (dExact s 96 a) fun _ a1 => bnd (dList s 1024 (dValue s) a1) fun xs a2 => bnd (dList s 1024 (dValue s) a2) fun ys a3 => .ok (⟨xs, ys⟩, a3)
def dTable (s : ByteArray) (a : Int) : PR S54 := bnd (dExact s 112 a) fun _ a1 => bnd (dLimits s a1) fun l a2 => .ok (l, a2)
def dImport (s : ByteArray) (a : Int) : PR S92 := bnd (dName s a) fun m a1 => bnd (dName s a1) fun n a2 => bnd (dOct s a2) fun k a3 =>
 if k = 0 then bnd (dNum s a3) fun t a4 => .ok (⟨m, n, k, t, false, ⟨0, 0⟩⟩, a4)
 else if k = 1 then bnd (dTable s a3) fun l a4 => .ok (⟨m, n, k, 0, false, l⟩, a4)
 else if k = 2 then bnd (dLimits s a3) fun l a4 => .ok (⟨m, n, k, 0, false, l⟩, a4)
 else if k = 3 then bnd (dValue s a3) fun t a4 => bnd (dFlag s a4) fun b a5 => .ok (⟨m, n, k, t, b, ⟨0, 0⟩⟩, a5)
 else .error 1506
def dGlobal (s : ByteArray) (a : Int) : PR S72 := bnd (dValue s a) fun t a1 => bnd (dFlag s a1) fun b a2 => bnd (dInstrs s a2) fun is a3 => .ok (⟨t, b, is⟩, a3)
def dExport (s : ByteArray) (a : Int) : PR S75 := bnd (dName s a) fun n a1 => bnd (dOct s a1) fun k a2 => if k ≤ 3 then bnd (dNum s a2) fun i a3 => .ok (⟨n, k, i⟩, a3) else .error 1506
def dElem (s : ByteArray) (a : Int) : PR S77 := bnd (dNought s a) fun _ a1 => bnd (dInstrs s a1) fun is a2 => bnd (dList s 1024 (dNum s) a2) fun fs a3 => .ok (⟨is, fs⟩, a3)
def dRun (s : ByteArray) (ls : List Int) (a : Int) : PR (List Int) := bnd (dNum s a) fun n a1 => if n ≤ 256 - (ls.length : Int) then bnd (dValue s a1) fun t a2 => .ok (ls ++ List.replicate n.toNat t, a2) else .error 1508
def dRuns (s : ByteArray) : Nat → List Int → Int → PR (List Int)
 | 0, ls, a => .ok (ls, a)
 | k + 1, ls, a => bnd (dRun s ls a) fun ls1 a1 => dRuns s k ls1 a1
def dCode (s : ByteArray) (a : Int) : PR S57 := bnd (dNum s a) fun size a1 => bnd (dNum s a1) fun many a2 => if many ≤ 1024 then bnd (dRuns s many.toNat [] a2) fun ls a3 => bnd (dInstrs s a3) fun is a4 => if a4 - a1 = size then .ok (⟨ls, is⟩, a4) else .error 1504 else .error 1508
def dData (s : ByteArray) (a : Int) : PR S80 := bnd (dNought s a) fun _ a1 => bnd (dInstrs s a1) fun is a2 => bnd (dNum s a2) fun n a3 => bnd (dBytes s n a3) fun b a4 => .ok (⟨is, b⟩, a4)
def panD (c : Int) : Value := .iface 59 (.agg #[.int .i64 c])
structure RdD (g : Nat) (s : ByteArray) (a : Int) (W : World) : Prop where
 blk : W.heap[g]? = some (.cells #[.string s, .int .i64 a] 68 (0, 0))
 lo : 0 ≤ a
 hi : a ≤ s.size
 sz : s.size ≤ 65536
 two : 2 ≤ g
 tab : Tabs W
def Thr (c : Int) (W : World) (S : Nat → Prop) (e : Ending) (w' : World) : Prop := e = .panicked [{ v := panD c, recovered := false }] ∧ Fr W w' S
def Ret {α : Type} (V : World → World → α → Value → Prop) (g : Nat) (s : ByteArray) (W : World) (r : PR α) (e : Ending) (w' : World) : Prop := match r with
 | .ok (x, a1) => ∃ v, e = .returned v ∧ V W w' x v ∧ RdD g s a1 w' ∧ Fr W w' (fun k => k = g)
 | .error c => Thr c W (fun k => k = g) e w'
def vI (_ _ : World) (x : Int) (v : Value) : Prop := v = .int .i64 x
def vB (_ _ : World) (x : Bool) (v : Value) : Prop := v = .bool x
def vS (_ _ : World) (x : ByteArray) (v : Value) : Prop := v = .string x
def vU (_ _ : World) (_ : Unit) (v : Value) : Prop := v = .tuple #[]
def vL {α : Type} (d : Kd α) (t : Nat) (W w' : World) (xs : List α) (v : Value) : Prop := d.R t w' 0 (fun k => W.heap.size ≤ k) v xs
def vM {α : Type} (d : Kd α) (W w' : World) (x : α) (v : Value) : Prop := ∃ cs : List Value, v = .agg cs.toArray ∧ d.M w' 0 (fun k => W.heap.size ≤ k) x cs
section
variable {α : Type} {V : World → World → α → Value → Prop} {g : Nat} {s : ByteArray} {W w' : World} {r : PR α} {e : Ending}
theorem ret_ok {x : α} {a1 : Int} {v : Value} (h : r = .ok (x, a1)) (he : e = .returned v) (hv : V W w' x v) (hr : RdD g s a1 w') (hf : Fr W w' (fun k => k = g)) : Ret V g s W r e w' := by
 subst h
 exact ⟨v, he, hv, hr, hf⟩
theorem ret_er {c : Int} (h : r = .error c) (he : e = .panicked [{ v := panD c, recovered := false }]) (hf : Fr W w' (fun k => k = g)) : Ret V g s W r e w' := by
 subst h
 exact ⟨he, hf⟩
theorem ret_cases (h : Ret V g s W r e w') : (∃ c, r = .error c ∧ e = .panicked [{ v := panD c, recovered := false }] ∧ Fr W w' (fun k => k = g)) ∨ (∃ x a1 v, r = .ok (x, a1) ∧ e = .returned v ∧ V W w' x v ∧ RdD g s a1 w' ∧ Fr W w' (fun k => k = g)) := by
 cases r with
 | error c => exact .inl ⟨c, rfl, h.1, h.2⟩
 | ok p =>
  obtain ⟨x, a1⟩ := p
  obtain ⟨v, h1, h2, h3, h4⟩ := h
  exact .inr ⟨x, a1, v, rfl, h1, h2, h3, h4⟩
end
theorem tabs_fr {W w' : World} {S : Nat → Prop} (h : Tabs W) (hf : Fr W w' S) (h0 : ¬ S 0) (h1 : ¬ S 1) : Tabs w' := by
 have k0 : ∀ c, W.cell? ⟨0, c, none⟩ ≠ none → w'.cell? ⟨0, c, none⟩ = W.cell? ⟨0, c, none⟩ := fun c hc => World.cell?_of_block (a := ⟨0, c, none⟩) (hf.k.2 0 (by
  rcases Nat.lt_or_ge 0 W.heap.size with h | h
  ·exact h
  ·exact absurd (by simp [World.cell?, Array.getElem?_eq_none h]) hc) h0)
 have k1 : ∀ c, W.cell? ⟨1, c, none⟩ ≠ none → w'.cell? ⟨1, c, none⟩ = W.cell? ⟨1, c, none⟩ := fun c hc => World.cell?_of_block (a := ⟨1, c, none⟩) (hf.k.2 1 (by
  rcases Nat.lt_or_ge 1 W.heap.size with h | h
  ·exact h
  ·exact absurd (by simp [World.cell?, Array.getElem?_eq_none h]) hc) h1)
 refine ⟨fun c hc => ?_, fun i hi => ⟨?_, ?_⟩⟩
 ·have := h.1 c hc
  rw [k0 c (by rw [this]; simp), this]
 ·have := (h.2 i hi).1
  rw [k1 _ (by rw [this]; simp), this]
 ·have := (h.2 i hi).2
  rw [k1 _ (by rw [this]; simp), this]
section
variable {g gi : Nat} {s : ByteArray} {a : Int} {w w1 : World}
theorem rd_below (h : RdD g s a w) (hb : Below w.heap.size w w1) : RdD g s a w1 := ⟨blk_below h.blk hb, h.lo, h.hi, h.sz, h.two, tabs_below h.tab hb⟩
theorem rd_drew (h : RdD g s a w) : RdD g s a w.drew := rd_below h (below_drew (Below.refl _ _))
theorem rd_other (h : RdD g s a w) (hf : Fr w w1 (fun k => k = gi)) (hg : g < gi) : RdD g s a w1 := ⟨hf.block h.blk (fun e => by have : g = gi := e; omega), h.lo, h.hi, h.sz, h.two, tabs_fr h.tab hf (fun e => by have : 0 = gi := e; omega) (fun e => by have : 1 = gi := e; have := h.two; omega)⟩
theorem rd_put (h : RdD g s a w) {b : Int} (h0 : 0 ≤ b) (h1 : b ≤ s.size) (hA : w1.heap[g]? = some (.cells #[.string s, .int .i64 b] 68 (0, 0))) (hf : Fr w w1 (fun k => k = g)) : RdD g s b w1 :=
 ⟨hA, h0, h1, h.sz, h.two, tabs_fr h.tab hf (fun e => by have : 0 = g := e; have := h.two; omega) (fun e => by have : 1 = g := e; have := h.two; omega)⟩
theorem fr_drewN {W : World} {S : Nat → Prop} (h : Fr W w S) (n : Nat) : Fr W (w.drewN n) S := h.below (pw_below_drewN (Below.refl _ _) n)
end
theorem need_no (c : Int) (w : World) : Calls Tryd.prog 23 #[.bool false, .int .i64 c] w fun e w' => e = .panicked [{ v := panD c, recovered := false }] ∧ w = w' := by
 go_enter Tryd.func23, Tryd.ntmps23
 go_wp2
 exact ⟨rfl, rfl, rfl⟩
theorem need_yes (c : Int) (w : World) : Calls Tryd.prog 23 #[.bool true, .int .i64 c] w fun e w' => e = .returned (.tuple #[]) ∧ w = w' := by
 go_enter Tryd.func23, Tryd.ntmps23
 go_wp2
 go_end0
 exact ⟨rfl, rfl⟩
theorem need_c (b : Bool) (c : Int) (w : World) : Calls Tryd.prog 23 #[.bool b, .int .i64 c] w fun e w' => w = w' ∧ ((b = false ∧ e = .panicked [{ v := panD c, recovered := false }]) ∨ (b = true ∧ e = .returned (.tuple #[]))) := by
 cases b
 ·exact (need_no c w).mono fun _ _ h => ⟨h.2, .inl ⟨rfl, h.1⟩⟩
 ·exact (need_yes c w).mono fun _ _ h => ⟨h.2, .inr ⟨rfl, h.1⟩⟩
section
variable {P : Program} {ops : Array Oper} {Q : Exit → Act → World → Prop}
theorem goesP_ {oi : Oper} {N : Option Tmp} {a : Act} {w : World} {K : Act → World → Prop} {f : FuncId} {fn : Func} {as' : Array Operand} {ts : Array TypeId} (hf : P.funcs[f]? = some fn) (hname : (fn.name == "runtime.NumGoroutine") = false) (hb : fn.body.isSome = true) (args : Array Value)
  (hw : Region.wanted oi (yielded ops a.tmps) = true) (hN : oi.dst = N) (hop : oi.op = .call { callee := .value (.func f), args := as', argTypes := ts }) (hargs : as'.map a.eval = args)
  (h : Calls P f args w fun e w' => (∃ ch, e = .panicked ch ∧ Q (.panic ch) a w') ∨ ∃ v, e = .returned v ∧ K (a.put N v) w') : if Region.wanted oi (yielded ops a.tmps) = true then Oper.wp P oi a w K Q else K (a.put N undef) w := by
 have he := enters_ hf hname hb args w
 have hrun : (execOp a.eval oi).run P w = .ok (.enter f args) w := by
  unfold execOp
  simp [hop, resolve, Deferred.ofValue, invoke, Act.eval, hargs, he]
 rw [if_pos hw]
 subst hN
 unfold Oper.wp
 rw [hrun, Oper.upon_enter]
 refine h.mono fun e w'' hh => ?_
 rcases hh with ⟨ch, rfl, hk⟩ | ⟨v, rfl, hk⟩
 ·exact hk
 ·exact hk
end
end Go.Proofs.YtkdoijfjceeblaaDoor.EDec
end
section
namespace Go.Proofs.YtkdoijfjceeblaaDoor.EDec
open Go Go.RowKit Go.Proofs.YtkdoijfjceeblaaDoor.F Go.Proofs.YtkdoijfjceeblaaDoorW.Hand Go.Proofs.YtkdoijfjceeblaaDoorW.PrintWords Go.Proofs.YtkdoijfjceeblaaDoorW.PrintLast Go.Proofs.YtkdoijfjceeblaaDoorW.PrintMore
open Go.Proofs.YtkdoijfjceeblaaDoor.LebGets (G)
open Go.Proofs.YtkdoijfjceeblaaDoor.ENames (Tabs tabs_below nget nmay)
open Go.Proofs.YtkdoijfjceeblaaDoor.EInstr (GRes pGet get_b ret_int wrap_bt)
set_option linter.unusedVariables false
set_option linter.unusedSimpArgs false
set_option maxHeartbeats 1000000 in
theorem octet_c {g : Nat} {s : ByteArray} {a : Int} {W : World} (h : RdD g s a W) : Calls Tryd.prog 61 #[.pointer (some ⟨g, 0, none⟩)] W (Ret vI g s W (dOct s a)) := by
 have H := am h
 have c0 : W.cell? ⟨g, 0, none⟩ = some (.string s) := blk_cell h.blk 0
 have c1 : W.cell? ⟨g, 1, none⟩ = some (.int .i64 a) := blk_cell h.blk 1
 have f1 : W.frozen? ⟨g, 1, none⟩ = false := blk_frozen h.blk _
 clear h
 go_enter Tryd.func61, Tryd.ntmps61
 go_wp2
 refine start_ (n := 11) (S := fun w' => RdD g s a w' ∧ Fr W w' (fun k => k = g) ∧ w'.cell? ⟨g, 0, none⟩ = some (.string s) ∧ w'.cell? ⟨g, 1, none⟩ = some (.int .i64 a)) (ds := []) #[false, false, false, false, false, false, false, false, false, false, false] (by kernel_rfl) rfl rfl ⟨rd_drew H.out, Fr.refl_drew _ _, c0, c1⟩ (fun hHeld => ?_)
 refine pu (i := 0) (N := some 3) (v := ?_) (a' := ?_) rfl rfl (by kernel_rfl) (fun _ _ _ h => h) (.inl ⟨by rfl, ?_⟩) ?_ ?_; rotate_left
 ·intro w'; go_simp; with_reducible rfl
 rotate_left; · simp only [Act.put, List.setIfInBounds_toArray, List.set_cons_zero, List.set_cons_succ, i64_w, i32_w]; rfl
 refine pu (i := 1) (N := some 4) (v := ?_) (a' := ?_) rfl rfl (by kernel_rfl) (fun _ _ _ h => h) (.inl ⟨by rfl, ?_⟩) ?_ ?_; rotate_left
 ·intro w'; go_simp; with_reducible rfl
 rotate_left; · simp only [Act.put, List.setIfInBounds_toArray, List.set_cons_zero, List.set_cons_succ, i64_w, i32_w]; rfl
 refine pu (i := 2) (N := some 5) (v := ?_) (a' := ?_) rfl rfl (by kernel_rfl) (fun _ _ _ h => h) (.inl ⟨by rfl, ?_⟩) ?_ ?_; rotate_left
 ·intro w'; go_simp; with_reducible rfl
 rotate_left; · simp only [Act.put, List.setIfInBounds_toArray, List.set_cons_zero, List.set_cons_succ, i64_w, i32_w]; rfl
 refine pu (i := 4) (N := some 7) (v := ?_) (a' := ?_) rfl rfl (by kernel_rfl) (fun _ _ _ h => h) (.inl ⟨by rfl, ?_⟩) ?_ ?_; rotate_left
 ·intro w'; go_simp; with_reducible rfl
 rotate_left; · simp only [Act.put, List.setIfInBounds_toArray, List.set_cons_zero, List.set_cons_succ, i64_w, i32_w]; rfl
 refine pu (i := 5) (N := some 8) (v := ?_) (a' := ?_) rfl rfl (by kernel_rfl) (fun _ _ _ h => h) (.inl ⟨by rfl, ?_⟩) ?_ ?_; rotate_left
 ·intro w'; go_simp; with_reducible rfl
 rotate_left; · simp only [Act.put, List.setIfInBounds_toArray, List.set_cons_zero, List.set_cons_succ, i64_w, i32_w]; rfl
 refine pu (i := 6) (N := some 9) (v := ?_) (a' := ?_) rfl rfl (by kernel_rfl) (fun _ _ _ h => h) (.inl ⟨by rfl, ?_⟩) ?_ ?_; rotate_left
 ·intro w'; go_simp; with_reducible rfl
 rotate_left; · simp only [Act.put, List.setIfInBounds_toArray, List.set_cons_zero, List.set_cons_succ, i64_w, i32_w]; rfl
 refine tu (i := 3) (N := some 6) (v := ?_) (a' := ?_) rfl rfl (by kernel_rfl) (fun _ _ _ h => h) (.inl ⟨by rfl, ?_⟩) hHeld ?_ ?_; rotate_left
 ·rintro w' ⟨s0, s1, s2, s3⟩; go_simp; with_reducible rfl
 rotate_left; · simp only [Act.put, List.setIfInBounds_toArray, List.set_cons_zero, List.set_cons_succ, i64_w, i32_w]; rfl
 refine tu (i := 7) (N := some 10) (v := ?_) (a' := ?_) rfl rfl (by kernel_rfl) (fun _ _ _ h => h) (.inl ⟨by rfl, ?_⟩) hHeld ?_ ?_; rotate_left
 ·rintro w' ⟨s0, s1, s2, s3⟩; go_simp; with_reducible rfl
 rotate_left; · simp only [Act.put, List.setIfInBounds_toArray, List.set_cons_zero, List.set_cons_succ, i64_w, i32_w]; rfl
 refine pu (i := 8) (N := some 11) (v := ?_) (a' := ?_) rfl rfl (by kernel_rfl) (fun _ _ _ h => h) (.inl ⟨by rfl, ?_⟩) ?_ ?_; rotate_left
 ·intro w'; go_simp; with_reducible rfl
 rotate_left; · simp only [Act.put, List.setIfInBounds_toArray, List.set_cons_zero, List.set_cons_succ, i64_w, i32_w]; rfl
 refine pu (i := 9) (N := some 12) (v := ?_) (a' := ?_) rfl rfl (by kernel_rfl) (fun _ _ _ h => h) (.inl ⟨by rfl, ?_⟩) ?_ ?_; rotate_left
 ·intro w'; go_simp; with_reducible rfl
 rotate_left; · simp only [Act.put, List.setIfInBounds_toArray, List.set_cons_zero, List.set_cons_succ, i64_w, i32_w]; rfl
 refine one_ (i := 10) (N := some 13) #[true, true, true, true, true, true, true, true, true, true, true] rfl rfl (by kernel_rfl) (by decide) (fun K hK => ?_)
 obtain ⟨r0, r1, c0, c1⟩ := hHeld
 refine goesP_ Tryd.func23 (by kernel_rfl) rfl #[.bool (decide (a < (s.size : Int))), .int .i64 1506] (by rfl) rfl rfl (by simp only [List.map_toArray, List.map_cons, List.map_nil]; rfl) ?_
 with_reducible refine (need_c _ _ _).mono ?_
 rintro e w3 ⟨rfl, (⟨hb, rfl⟩ | ⟨hb, rfl⟩)⟩
 ·exact .inl ⟨_, rfl, rfl, ret_er (by simp only [dOct, if_neg (of_decide_eq_false hb)]) rfl r1⟩
 refine .inr ⟨_, rfl, ?_⟩
 have Q0 := am r0
 have Q1 := am r1
 have Q2 := am (of_decide_eq_true hb)
 clear r0 r1
 refine hK.out _ _ ⟨Q0.out, Q1.out, c0, c1⟩ (fun hHeld => ?_)
 clear hK K
 refine norm_ (a' := ?_) ?_ ?_
 rotate_left
 ·show Act.put _ (some 13) _ = _
  simp only [Act.put, List.setIfInBounds_toArray, List.set_cons_zero, List.set_cons_succ, i64_w, i32_w]
  rfl
 refine done_ (by kernel_rfl) ?_
 have l0 := H.out.lo
 have l1 : a.toNat < s.size := by have := Q2.out; omega
 have B1 := bt_at s a l1
 have w1 : wrap64 (a + 1) = a + 1 := by have := H.out.hi; have := H.out.sz; unfold wrap64; omega
 have w2 : wrap64 (a + 1 - 1) = a := by have := H.out.lo; have := H.out.hi; have := H.out.sz; unfold wrap64; omega
 have w3 : IntKind.i64.wrap (a + 1 - 1) = a := by rw [IntKind.wrap_i64]; have := H.out.lo; have := H.out.hi; have := H.out.sz; omega
 have wa : wrap64 a = a := by have := H.out.lo; have := H.out.hi; have := H.out.sz; unfold wrap64; omega
 have l2 : a < (s.size : Int) := Q2.out
 go_wp2_with ((with_reducible refine gate_store (p := 20) rfl ?_); refine storeCell_event (g := g) (j := 1) (x := .int .i64 (wrap64 (a + 1))) rfl rfl rfl rfl rfl Q0.out.blk (by simp) (by kernel_rfl) rfl ?_; intro w4 hA hb ho hs; rw [w1] at hA; have R4 := am (rd_put Q0.out (show 0 ≤ (a + 1) by have := Q2.out; have := H.out.lo; omega) (by have := Q2.out; have := H.out.lo; omega) hA (Fr.stored (S := fun k => k = g) hb ho hs rfl)); have F4 := am (Q1.out.then_ (Fr.stored (S := fun k => k = g) hb ho hs rfl) (fun k hk => .inl hk)); clear hA hb ho hs)
 have c2 : w4.cell? ⟨g, 0, none⟩ = some (.string s) := blk_cell R4.out.blk 0
 have c3 : w4.cell? ⟨g, 1, none⟩ = some (.int .i64 (a + 1)) := blk_cell R4.out.blk 1
 refine start_ (n := 12) (S := fun w' => w'.cell? ⟨g, 0, none⟩ = some (.string s) ∧ w'.cell? ⟨g, 1, none⟩ = some (.int .i64 (a + 1))) (ds := []) #[false, false, false, false, false, false, false, false, false, false, false, false] (by kernel_rfl) rfl rfl ⟨c2, c3⟩ (fun hHeld => ?_)
 refine pu (i := 0) (N := some 21) (v := ?_) (a' := ?_) rfl rfl (by kernel_rfl) (fun _ _ _ h => h) (.inl ⟨by rfl, ?_⟩) ?_ ?_; rotate_left
 ·intro w'; go_simp; with_reducible rfl
 rotate_left; · simp only [Act.put, List.setIfInBounds_toArray, List.set_cons_zero, List.set_cons_succ, i64_w, i32_w]; rfl
 refine pu (i := 1) (N := some 22) (v := ?_) (a' := ?_) rfl rfl (by kernel_rfl) (fun _ _ _ h => h) (.inl ⟨by rfl, ?_⟩) ?_ ?_; rotate_left
 ·intro w'; go_simp; with_reducible rfl
 rotate_left; · simp only [Act.put, List.setIfInBounds_toArray, List.set_cons_zero, List.set_cons_succ, i64_w, i32_w]; rfl
 refine pu (i := 2) (N := some 23) (v := ?_) (a' := ?_) rfl rfl (by kernel_rfl) (fun _ _ _ h => h) (.inl ⟨by rfl, ?_⟩) ?_ ?_; rotate_left
 ·intro w'; go_simp; with_reducible rfl
 rotate_left; · simp only [Act.put, List.setIfInBounds_toArray, List.set_cons_zero, List.set_cons_succ, i64_w, i32_w]; rfl
 refine pu (i := 4) (N := some 25) (v := ?_) (a' := ?_) rfl rfl (by kernel_rfl) (fun _ _ _ h => h) (.inl ⟨by rfl, ?_⟩) ?_ ?_; rotate_left
 ·intro w'; go_simp; with_reducible rfl
 rotate_left; · simp only [Act.put, List.setIfInBounds_toArray, List.set_cons_zero, List.set_cons_succ, i64_w, i32_w]; rfl
 refine pu (i := 5) (N := some 26) (v := ?_) (a' := ?_) rfl rfl (by kernel_rfl) (fun _ _ _ h => h) (.inl ⟨by rfl, ?_⟩) ?_ ?_; rotate_left
 ·intro w'; go_simp; with_reducible rfl
 rotate_left; · simp only [Act.put, List.setIfInBounds_toArray, List.set_cons_zero, List.set_cons_succ, i64_w, i32_w]; rfl
 refine pu (i := 6) (N := some 27) (v := ?_) (a' := ?_) rfl rfl (by kernel_rfl) (fun _ _ _ h => h) (.inl ⟨by rfl, ?_⟩) ?_ ?_; rotate_left
 ·intro w'; go_simp; with_reducible rfl
 rotate_left; · simp only [Act.put, List.setIfInBounds_toArray, List.set_cons_zero, List.set_cons_succ, i64_w, i32_w]; rfl
 refine tu (i := 3) (N := some 24) (v := ?_) (a' := ?_) rfl rfl (by kernel_rfl) (fun _ _ _ h => h) (.inl ⟨by rfl, ?_⟩) hHeld ?_ ?_; rotate_left
 ·rintro w' ⟨s0, s1⟩; go_simp; with_reducible rfl
 rotate_left; · simp only [Act.put, List.setIfInBounds_toArray, List.set_cons_zero, List.set_cons_succ, i64_w, i32_w]; rfl
 refine tu (i := 7) (N := some 28) (v := ?_) (a' := ?_) rfl rfl (by kernel_rfl) (fun _ _ _ h => h) (.inl ⟨by rfl, ?_⟩) hHeld ?_ ?_; rotate_left
 ·rintro w' ⟨s0, s1⟩; go_simp; with_reducible rfl
 rotate_left; · simp only [Act.put, List.setIfInBounds_toArray, List.set_cons_zero, List.set_cons_succ, i64_w, i32_w]; rfl
 refine pu (i := 8) (N := some 29) (v := ?_) (a' := ?_) rfl rfl (by kernel_rfl) (fun _ _ _ h => h) (.inl ⟨by rfl, ?_⟩) ?_ ?_; rotate_left
 ·intro w'; go_simp; with_reducible rfl
 rotate_left; · simp only [Act.put, List.setIfInBounds_toArray, List.set_cons_zero, List.set_cons_succ, i64_w, i32_w]; rfl
 refine tu (i := 9) (N := some 30) (v := ?_) (a' := ?_) rfl rfl (by kernel_rfl) (fun _ _ _ h => h) (.inl ⟨by rfl, ?_⟩) hHeld ?_ ?_; rotate_left
 ·rintro w' ⟨s0, s1⟩; go_simp; with_reducible rfl
 rotate_left; · simp only [Act.put, List.setIfInBounds_toArray, List.set_cons_zero, List.set_cons_succ, i64_w, i32_w]; rfl
 refine pu (i := 10) (N := some 31) (v := ?_) (a' := ?_) rfl rfl (by kernel_rfl) (fun _ _ _ h => h) (.inl ⟨by rfl, ?_⟩) ?_ ?_; rotate_left
 ·intro w'; go_simp; with_reducible rfl
 rotate_left; · simp only [Act.put, List.setIfInBounds_toArray, List.set_cons_zero, List.set_cons_succ, i64_w, i32_w]; rfl
 refine pu (i := 11) (N := some 2) (v := ?_) (a' := ?_) rfl rfl (by kernel_rfl) (fun _ _ _ h => h) (.inl ⟨by rfl, ?_⟩) ?_ ?_; rotate_left
 ·intro w'; go_simp; with_reducible rfl
 rotate_left; · simp only [Act.put, List.setIfInBounds_toArray, List.set_cons_zero, List.set_cons_succ, i64_w, i32_w]; rfl
 refine done_ (by kernel_rfl) ?_
 go_wp2
 go_ret
 exact ret_ok (by simp only [dOct, if_pos Q2.out]) (ret_int (wrap_bt s a)) rfl (rd_drew R4.out) F4.out.drew
end Go.Proofs.YtkdoijfjceeblaaDoor.EDec
end
section
namespace Go.Proofs.YtkdoijfjceeblaaDoor.EDec
open Go Go.RowKit Go.Proofs.YtkdoijfjceeblaaDoor.F Go.Proofs.YtkdoijfjceeblaaDoorW.Hand Go.Proofs.YtkdoijfjceeblaaDoorW.PrintWords Go.Proofs.YtkdoijfjceeblaaDoorW.PrintLast Go.Proofs.YtkdoijfjceeblaaDoorW.PrintMore
open Go.Proofs.YtkdoijfjceeblaaDoor.LebGets (G)
open Go.Proofs.YtkdoijfjceeblaaDoor.ENames (Tabs tabs_below nget nmay)
open Go.Proofs.YtkdoijfjceeblaaDoor.EInstr (GRes pGet get_b ret_int wrap_bt)
set_option linter.unusedVariables false
set_option linter.unusedSimpArgs false
theorem nt {b : Bool} (h : b = false) : ¬ b = true := by rw [h]; decide
theorem dNum_ok {s : ByteArray} {a x a1 : Int} (h : dNum s a = .ok (x, a1)) : 0 ≤ x ∧ x < 34359738368 ∧ 0 ≤ a1 ∧ a1 ≤ s.size := by
 unfold dNum at h
 rcases ENames.G_form s a with ⟨n, q, hG, h1, h2⟩ | ⟨e, he, hG⟩
 ·rw [hG] at h
  simp only [if_true] at h
  cases h
  omega
 ·rw [hG] at h
  simp only [if_neg he] at h
  cases h
section
variable {P : Program} {ops : Array Oper} {rest : List Oper} {o : Oper} {a : Act} {Q : Exit → Act → World → Prop}
theorem storeTwo_event {W : World} {g j : Nat} {x y : Value} (hgd : o.guard = none) {t : TypeId} {p v : Operand} (ho : o.op = .store t p v) (hN : o.dst = none) {cs : Array Value} {T : TypeId}
  (hp : a.eval p = .pointer (some ⟨g, j, none⟩)) (hv : a.eval v = .agg #[x, y]) (hg : W.heap[g]? = some (.cells cs T (0, 0))) (hj : j + 2 ≤ cs.size) (hi : (P.info? t).map (·.size) = some 2) (h1 : x.oneCell' = true) (h2 : y.oneCell' = true)
  (h : ∀ w', w'.heap[g]? = some (.cells ((cs.setIfInBounds j x).setIfInBounds (j + 1) y) T (0, 0)) → (∀ B wb, B ≤ g → Below B wb W → Below B wb w') → (∀ k, k ≠ g → w'.heap[k]? = W.heap[k]?) → w'.heap.size = W.heap.size → wpList P ops Q rest a w') : wpList P ops Q (o :: rest) a W := by
 have e : W.setCells g j [x, y] = (W.setCell ⟨g, j, none⟩ x).setCell ⟨g, j + 1, none⟩ y := by simp [World.setCells]
 have hcells : (Value.agg #[x, y]).cells.toList = [x, y] := by
  have e1 := cells_one h1
  have e2 := cells_one h2
  simp [Value.cells, e1, e2]
 have hrun : (execOp a.eval o).run P W = .ok .skip ((W.setCell ⟨g, j, none⟩ x).setCell ⟨g, j + 1, none⟩ y) := by
  have hsa := run_store_run (P := P) t (.agg #[x, y]) [x, y] hg (o := j) hcells hi (by simpa using hj) (by intro q hq; simp at hq; rcases hq with rfl | rfl <;> assumption)
  rw [e] at hsa
  unfold execOp
  rw [ho]
  simp only [hp, hv]
  rw [Sem.run_bind, hsa]
  rfl
 refine wpList_plain hgd fun K hK => ?_
 unfold Oper.wp
 rw [hrun]
 show K (a.put o.dst undef) _
 rw [hN]
 have hg1 := blk_set hg j x
 exact hK _ _ (h _ (blk_set hg1 (j + 1) y) (fun B wb hB hb => (hb.setCell hB x).setCell hB y) (fun k hk => (Below.heap_setCell _ ⟨g, j + 1, none⟩ y k hk).trans (Below.heap_setCell W ⟨g, j, none⟩ x k hk)) (by simp [World.setCell]))
end
theorem fr_new {W w w1 : World} {S : Nat → Prop} {g : Nat} (h : Fr W w S) (h1 : Fr w w1 (fun k => k = g)) (hg : W.heap.size ≤ g) : Fr W w1 S := EInstr.fr_new h h1 hg
set_option maxHeartbeats 1000000 in
theorem number_c {g : Nat} {s : ByteArray} {a : Int} {W : World} (h : RdD g s a W) : Calls Tryd.prog 41 #[.pointer (some ⟨g, 0, none⟩)] W (Ret vI g s W (dNum s a)) := by
 have H := am h
 have c0 : W.cell? ⟨g, 0, none⟩ = some (.string s) := blk_cell h.blk 0
 have c1 : W.cell? ⟨g, 1, none⟩ = some (.int .i64 a) := blk_cell h.blk 1
 have HS := am (show s.size ≤ 140737488355328 by have := h.sz; omega)
 obtain ⟨x, y, z, hx⟩ : ∃ x y z, G s a 32 = (x, y, z) := ⟨_, _, _, rfl⟩
 have HX := am hx
 have B1 : Aside0 (0 ≤ y ∧ y ≤ (s.size : Int)) := ⟨by
  rcases ENames.G_form s a with ⟨n, q, hG, h1, h2⟩ | ⟨e, he, hG⟩
  ·rw [hG] at hx
   cases hx
   omega
  ·rw [hG] at hx
   cases hx
   omega⟩
 clear h hx
 go_enter Tryd.func41, Tryd.ntmps41
 go_wp2
 refine start_ (n := 16) (S := fun w' => RdD g s a w' ∧ Fr W w' (fun k => k = g) ∧ w'.cell? ⟨g, 0, none⟩ = some (.string s) ∧ w'.cell? ⟨g, 1, none⟩ = some (.int .i64 a)) (ds := []) #[false, false, false, false, false, false, false, false, false, false, false, false, false, false, false, false] (by kernel_rfl) rfl rfl ⟨rd_drew H.out, Fr.refl_drew _ _, c0, c1⟩ (fun hHeld => ?_)
 refine pu (i := 0) (N := some 7) (v := ?_) (a' := ?_) rfl rfl (by kernel_rfl) (fun _ _ _ h => h) (.inl ⟨by rfl, ?_⟩) ?_ ?_; rotate_left
 ·intro w'; go_simp; with_reducible rfl
 rotate_left; · simp only [Act.put, List.setIfInBounds_toArray, List.set_cons_zero, List.set_cons_succ, i64_w, i32_w]; rfl
 refine pu (i := 1) (N := some 8) (v := ?_) (a' := ?_) rfl rfl (by kernel_rfl) (fun _ _ _ h => h) (.inl ⟨by rfl, ?_⟩) ?_ ?_; rotate_left
 ·intro w'; go_simp; with_reducible rfl
 rotate_left; · simp only [Act.put, List.setIfInBounds_toArray, List.set_cons_zero, List.set_cons_succ, i64_w, i32_w]; rfl
 refine pu (i := 2) (N := some 9) (v := ?_) (a' := ?_) rfl rfl (by kernel_rfl) (fun _ _ _ h => h) (.inl ⟨by rfl, ?_⟩) ?_ ?_; rotate_left
 ·intro w'; go_simp; with_reducible rfl
 rotate_left; · simp only [Act.put, List.setIfInBounds_toArray, List.set_cons_zero, List.set_cons_succ, i64_w, i32_w]; rfl
 refine pu (i := 4) (N := some 11) (v := ?_) (a' := ?_) rfl rfl (by kernel_rfl) (fun _ _ _ h => h) (.inl ⟨by rfl, ?_⟩) ?_ ?_; rotate_left
 ·intro w'; go_simp; with_reducible rfl
 rotate_left; · simp only [Act.put, List.setIfInBounds_toArray, List.set_cons_zero, List.set_cons_succ, i64_w, i32_w]; rfl
 refine pu (i := 5) (N := some 12) (v := ?_) (a' := ?_) rfl rfl (by kernel_rfl) (fun _ _ _ h => h) (.inl ⟨by rfl, ?_⟩) ?_ ?_; rotate_left
 ·intro w'; go_simp; with_reducible rfl
 rotate_left; · simp only [Act.put, List.setIfInBounds_toArray, List.set_cons_zero, List.set_cons_succ, i64_w, i32_w]; rfl
 refine pu (i := 6) (N := some 13) (v := ?_) (a' := ?_) rfl rfl (by kernel_rfl) (fun _ _ _ h => h) (.inl ⟨by rfl, ?_⟩) ?_ ?_; rotate_left
 ·intro w'; go_simp; with_reducible rfl
 rotate_left; · simp only [Act.put, List.setIfInBounds_toArray, List.set_cons_zero, List.set_cons_succ, i64_w, i32_w]; rfl
 refine tu (i := 3) (N := some 10) (v := ?_) (a' := ?_) rfl rfl (by kernel_rfl) (fun _ _ _ h => h) (.inl ⟨by rfl, ?_⟩) hHeld ?_ ?_; rotate_left
 ·rintro w' ⟨s0, s1, s2, s3⟩; go_simp; with_reducible rfl
 rotate_left; · simp only [Act.put, List.setIfInBounds_toArray, List.set_cons_zero, List.set_cons_succ, i64_w, i32_w]; rfl
 refine tu (i := 7) (N := some 14) (v := ?_) (a' := ?_) rfl rfl (by kernel_rfl) (fun _ _ _ h => h) (.inl ⟨by rfl, ?_⟩) hHeld ?_ ?_; rotate_left
 ·rintro w' ⟨s0, s1, s2, s3⟩; go_simp; with_reducible rfl
 rotate_left; · simp only [Act.put, List.setIfInBounds_toArray, List.set_cons_zero, List.set_cons_succ, i64_w, i32_w]; rfl
 refine one_ (i := 8) (N := some 15) #[true, true, true, true, true, true, true, true, true, false, false, false, false, false, false, false] rfl rfl (by kernel_rfl) (by decide) (fun K hK => ?_)
 obtain ⟨r0, r1, c0, c1⟩ := hHeld
 refine goes_ Tryd.func34 (by kernel_rfl) rfl #[.string s, .int .i64 a, .int .i64 32] (by rfl) rfl rfl (by simp only [List.map_toArray, List.map_cons, List.map_nil]; rfl) ?_
 with_reducible refine (get_b HS.out HX.out _).mono ?_
 rintro e w3 ⟨rfl, hb3⟩
 refine ⟨_, rfl, ?_⟩
 have q0 := rd_below r0 hb3
 have q1 := r1.below hb3
 have c4 : w3.cell? ⟨g, 0, none⟩ = some (.string s) := blk_cell q0.blk 0
 have c5 : w3.cell? ⟨g, 1, none⟩ = some (.int .i64 a) := blk_cell q0.blk 1
 have R1 := am q0
 have F1 := am q1
 clear q0 q1 hb3 r0 r1
 refine hK.out _ _ ⟨R1.out, F1.out, c4, c5⟩ (fun hHeld => ?_)
 clear hK K
 refine norm_ (a' := ?_) ?_ ?_
 rotate_left
 ·show Act.put _ (some 15) _ = _
  simp only [Act.put, List.setIfInBounds_toArray, List.set_cons_zero, List.set_cons_succ, i64_w, i32_w]
  rfl
 refine pu (i := 9) (N := some 6) (v := ?_) (a' := ?_) rfl rfl (by kernel_rfl) (fun _ _ _ h => h) (.inl ⟨by rfl, ?_⟩) ?_ ?_; rotate_left
 ·intro w'; go_simp; with_reducible rfl
 rotate_left; · simp only [Act.put, List.setIfInBounds_toArray, List.set_cons_zero, List.set_cons_succ, i64_w, i32_w]; rfl
 refine pu (i := 10) (N := some 16) (v := ?_) (a' := ?_) rfl rfl (by kernel_rfl) (fun _ _ _ h => h) (.inl ⟨by rfl, ?_⟩) ?_ ?_; rotate_left
 ·intro w'; go_simp; with_reducible rfl
 rotate_left; · simp only [Act.put, List.setIfInBounds_toArray, List.set_cons_zero, List.set_cons_succ, i64_w, i32_w]; rfl
 refine pu (i := 11) (N := some 17) (v := ?_) (a' := ?_) rfl rfl (by kernel_rfl) (fun _ _ _ h => h) (.inl ⟨by rfl, ?_⟩) ?_ ?_; rotate_left
 ·intro w'; go_simp; with_reducible rfl
 rotate_left; · simp only [Act.put, List.setIfInBounds_toArray, List.set_cons_zero, List.set_cons_succ, i64_w, i32_w]; rfl
 refine pu (i := 12) (N := some 18) (v := ?_) (a' := ?_) rfl rfl (by kernel_rfl) (fun _ _ _ h => h) (.inl ⟨by rfl, ?_⟩) ?_ ?_; rotate_left
 ·intro w'; go_simp; with_reducible rfl
 rotate_left; · simp only [Act.put, List.setIfInBounds_toArray, List.set_cons_zero, List.set_cons_succ, i64_w, i32_w]; rfl
 refine pu (i := 13) (N := some 3) (v := ?_) (a' := ?_) rfl rfl (by kernel_rfl) (fun _ _ _ h => h) (.inl ⟨by rfl, ?_⟩) ?_ ?_; rotate_left
 ·intro w'; go_simp; with_reducible rfl
 rotate_left; · simp only [Act.put, List.setIfInBounds_toArray, List.set_cons_zero, List.set_cons_succ, i64_w, i32_w]; rfl
 refine pu (i := 14) (N := some 4) (v := ?_) (a' := ?_) rfl rfl (by kernel_rfl) (fun _ _ _ h => h) (.inl ⟨by rfl, ?_⟩) ?_ ?_; rotate_left
 ·intro w'; go_simp; with_reducible rfl
 rotate_left; · simp only [Act.put, List.setIfInBounds_toArray, List.set_cons_zero, List.set_cons_succ, i64_w, i32_w]; rfl
 refine pu (i := 15) (N := some 5) (v := ?_) (a' := ?_) rfl rfl (by kernel_rfl) (fun _ _ _ h => h) (.inl ⟨by rfl, ?_⟩) ?_ ?_; rotate_left
 ·intro w'; go_simp; with_reducible rfl
 rotate_left; · simp only [Act.put, List.setIfInBounds_toArray, List.set_cons_zero, List.set_cons_succ, i64_w, i32_w]; rfl
 refine done_ (by kernel_rfl) ?_
 go_wp2_with (first
  | (go_at_call 23; (with_reducible refine (need_c _ _ _).mono ?_); rintro e w' ⟨rfl, (⟨hb, rfl⟩ | ⟨hb, rfl⟩)⟩; (exact ⟨rfl, ret_er (by simp only [dNum, HX.out, if_neg (ne_of_beq_false hb)]) rfl F1.out⟩); have Q1 := am (eq_of_beq hb); clear hb)
  | ((with_reducible refine gate_store (p := 25) rfl ?_); refine storeCell_event (g := g) (j := 1) (x := .int .i64 y) rfl rfl rfl rfl rfl R1.out.blk (by simp) (by kernel_rfl) rfl ?_; intro w2 hA hb ho hs; have R2 := am (rd_put R1.out (show 0 ≤ y by first | exact B1.out.1 | exact B1.out.2) (by first | exact B1.out.1 | exact B1.out.2) hA (Fr.stored (S := fun k => k = g) hb ho hs rfl)); have F2 := am (F1.out.then_ (Fr.stored (S := fun k => k = g) hb ho hs rfl) (fun k hk => .inl hk)); clear hA hb ho hs))
 go_ret
 exact ret_ok (by simp only [dNum, HX.out, if_pos Q1.out]) rfl rfl R2.out F2.out
set_option maxHeartbeats 2000000 in
set_option maxRecDepth 100000 in
theorem flag_c {g : Nat} {s : ByteArray} {a : Int} {W : World} (h : RdD g s a W) : Calls Tryd.prog 62 #[.pointer (some ⟨g, 0, none⟩)] W (Ret vB g s W (dFlag s a)) := by
 have R0 := am h
 have F0 : Aside0 (Fr W W (fun k => k = g)) := ⟨Fr.refl _ _⟩
 clear h
 go_enter Tryd.func62, Tryd.ntmps62
 go_wp2_with (first
  | (go_at_call 61; (with_reducible refine (octet_c R0.out).mono ?_); intro e w1 hh; rcases ret_cases hh with ⟨c, hc, rfl, hf⟩ | ⟨x, a1, v, hx, rfl, hv, hr, hf⟩; (exact ⟨rfl, ret_er (by simp only [dFlag, bnd_er hc]) rfl (F0.out.then_ hf (fun k hk => .inl hk))⟩); (have hv : v = .int .i64 x := hv); subst hv; have R1 := am hr; have F1 := am (F0.out.then_ hf (fun k hk => .inl hk)); have X1 := am hx; clear hh hr hf hx R0 F0  )
  | (go_at_call 23; (with_reducible refine (need_c _ _ _).mono ?_); rintro e w' ⟨rfl, (⟨hb, rfl⟩ | ⟨hb, rfl⟩)⟩; (exact ⟨rfl, ret_er (by simp only [dFlag, bnd_ok X1.out, if_neg (of_decide_eq_false hb)]) rfl F1.out⟩); have Q1 := am (of_decide_eq_true hb); clear hb))
 go_ret
 exact ret_ok (by simp only [dFlag, bnd_ok X1.out, if_pos Q1.out]) rfl rfl R1.out F1.out
set_option maxHeartbeats 2000000 in
set_option maxRecDepth 100000 in
theorem exact_c {g : Nat} {s : ByteArray} {a : Int} {W : World} {x : Int} (h : RdD g s a W) : Calls Tryd.prog 59 #[.pointer (some ⟨g, 0, none⟩), .int .i64 x] W (Ret vU g s W (dExact s x a)) := by
 have R0 := am h
 have F0 : Aside0 (Fr W W (fun k => k = g)) := ⟨Fr.refl _ _⟩
 clear h
 go_enter Tryd.func59, Tryd.ntmps59
 go_wp2_with (first
  | (go_at_call 61; (with_reducible refine (octet_c R0.out).mono ?_); intro e w1 hh; rcases ret_cases hh with ⟨c, hc, rfl, hf⟩ | ⟨y, a1, v, hx, rfl, hv, hr, hf⟩; (exact ⟨rfl, ret_er (by simp only [dExact, bnd_er hc]) rfl (F0.out.then_ hf (fun k hk => .inl hk))⟩); (have hv : v = .int .i64 y := hv); subst hv; have R1 := am hr; have F1 := am (F0.out.then_ hf (fun k hk => .inl hk)); have X1 := am hx; clear hh hr hf hx R0 F0  )
  | (go_at_call 23; (with_reducible refine (need_c _ _ _).mono ?_); rintro e w' ⟨rfl, (⟨hb, rfl⟩ | ⟨hb, rfl⟩)⟩; (exact ⟨rfl, ret_er (by simp only [dExact, bnd_ok X1.out, if_neg (ne_of_beq_false hb)]) rfl F1.out⟩); have Q1 := am (eq_of_beq hb); clear hb))
 go_end0
 exact ret_ok (x := ()) (by simp only [dExact, bnd_ok X1.out, if_pos Q1.out]) rfl rfl R1.out F1.out
set_option maxHeartbeats 2000000 in
set_option maxRecDepth 100000 in
theorem nought_c {g : Nat} {s : ByteArray} {a : Int} {W : World} (h : RdD g s a W) : Calls Tryd.prog 64 #[.pointer (some ⟨g, 0, none⟩)] W (Ret vU g s W (dNought s a)) := by
 have R0 := am h
 have F0 : Aside0 (Fr W W (fun k => k = g)) := ⟨Fr.refl _ _⟩
 clear h
 go_enter Tryd.func64, Tryd.ntmps64
 go_wp2_with (first
  | (go_at_call 41; (with_reducible refine (number_c R0.out).mono ?_); intro e w1 hh; rcases ret_cases hh with ⟨c, hc, rfl, hf⟩ | ⟨y, a1, v, hx, rfl, hv, hr, hf⟩; (exact ⟨rfl, ret_er (by simp only [dNought, bnd_er hc]) rfl (F0.out.then_ hf (fun k hk => .inl hk))⟩); (have hv : v = .int .i64 y := hv); subst hv; have R1 := am hr; have F1 := am (F0.out.then_ hf (fun k hk => .inl hk)); have X1 := am hx; clear hh hr hf hx R0 F0  )
  | (go_at_call 23; (with_reducible refine (need_c _ _ _).mono ?_); rintro e w' ⟨rfl, (⟨hb, rfl⟩ | ⟨hb, rfl⟩)⟩; (exact ⟨rfl, ret_er (by simp only [dNought, bnd_ok X1.out, if_neg (ne_of_beq_false hb)]) rfl F1.out⟩); have Q1 := am (eq_of_beq hb); clear hb))
 go_end0
 exact ret_ok (x := ()) (by simp only [dNought, bnd_ok X1.out, if_pos Q1.out]) rfl rfl R1.out F1.out
theorem value_ev (t : Int) : ftype_Value.f t = some (valB t) := by
 unfold ftype_Value.f valB
 split
 ·rw [Option.some.injEq]
  exact (decide_eq_false (by omega)).symm
 ·rw [EInstr.type_ev, Option.bind_some, Option.some.injEq]
  exact decide_eq_decide.2 (by omega)
theorem isval_c (t : Int) (w : World) : Calls Tryd.prog 68 #[.int .i64 t] w fun e w' => e = .returned (.bool (valB t)) ∧ Below w.heap.size w w' :=
 (ftype_Value.calls t _ w (value_ev t)).mono fun _ _ h => ⟨h.1, by first | exact h.2 | exact h.2.below | (rw [h.2]; exact Below.refl _ _)⟩
set_option maxHeartbeats 2000000 in
set_option maxRecDepth 100000 in
theorem value_c {g : Nat} {s : ByteArray} {a : Int} {W : World} (h : RdD g s a W) : Calls Tryd.prog 60 #[.pointer (some ⟨g, 0, none⟩)] W (Ret vI g s W (dValue s a)) := by
 have R0 := am h
 have F0 : Aside0 (Fr W W (fun k => k = g)) := ⟨Fr.refl _ _⟩
 clear h
 go_enter Tryd.func60, Tryd.ntmps60
 go_wp2_with (first
  | (go_at_call 61; (with_reducible refine (octet_c R0.out).mono ?_); intro e w1 hh; rcases ret_cases hh with ⟨c, hc, rfl, hf⟩ | ⟨t, a1, v, hx, rfl, hv, hr, hf⟩; (exact ⟨rfl, ret_er (by simp only [dValue, bnd_er hc]) rfl (F0.out.then_ hf (fun k hk => .inl hk))⟩); (have hv : v = .int .i64 t := hv); subst hv; have R1 := am hr; have F1 := am (F0.out.then_ hf (fun k hk => .inl hk)); have X1 := am hx; clear hh hr hf hx R0 F0  )
  | (go_at_call 68; (with_reducible refine (isval_c _ _).mono ?_); rintro e w2 ⟨rfl, hb⟩; have R2 := am (rd_below R1.out hb); have F2 := am (F1.out.below hb); clear hb R1 F1)
  | (go_at_call 23; (with_reducible refine (need_c _ _ _).mono ?_); rintro e w' ⟨rfl, (⟨hb, rfl⟩ | ⟨hb, rfl⟩)⟩; (exact ⟨rfl, ret_er (by simp only [dValue, bnd_ok X1.out, if_neg (nt hb)]) rfl F2.out⟩); have Q1 := am (hb); clear hb))
 go_ret
 exact ret_ok (by simp only [dValue, bnd_ok X1.out, if_pos Q1.out]) rfl rfl R2.out F2.out
theorem nget_rng {s : ByteArray} {a : Int} {x : ByteArray} {y : Int} (h : nget s a = (x, y, 0)) : 0 ≤ y ∧ y ≤ s.size := by
 unfold nget at h
 rcases ENames.G_form s a with ⟨n, q, hG, h1, h2⟩ | ⟨e, he, hG⟩
 ·rw [hG] at h
  simp only [ne_eq, not_true_eq_false, false_or] at h
  split at h
  ·cases h
  split at h
  ·cases h
  split at h
  ·cases h
   omega
  ·cases h
 ·rw [hG] at h
  simp only [ne_eq, he, not_false_eq_true, true_or, if_true] at h
  cases h
theorem name_b {s : ByteArray} {a : Int} {x : ByteArray} {y z : Int} {w : World} (hs : s.size ≤ 140737488355328) (h : nget s a = (x, y, z)) (hT : Tabs w) : Calls Tryd.prog 58 #[.string s, .int .i64 a] w fun e w' => e = .returned (.tuple #[.string x, .int .i64 y, .int .i64 z]) ∧ Below w.heap.size w w' := by
 have := ENames.get_calls s a w hs hT
 rw [h] at this
 exact this
set_option maxHeartbeats 1000000 in
theorem name_c {g : Nat} {s : ByteArray} {a : Int} {W : World} (h : RdD g s a W) : Calls Tryd.prog 35 #[.pointer (some ⟨g, 0, none⟩)] W (Ret vS g s W (dName s a)) := by
 have H := am h
 have c0 : W.cell? ⟨g, 0, none⟩ = some (.string s) := blk_cell h.blk 0
 have c1 : W.cell? ⟨g, 1, none⟩ = some (.int .i64 a) := blk_cell h.blk 1
 have HS := am (show s.size ≤ 140737488355328 by have := h.sz; omega)
 obtain ⟨x, y, z, hx⟩ : ∃ x y z, nget s a = (x, y, z) := ⟨_, _, _, rfl⟩
 have HX := am hx
 have B1 : Aside0 (z = 0 → 0 ≤ y ∧ y ≤ (s.size : Int)) := ⟨fun hz => nget_rng (hz ▸ hx)⟩
 clear h hx
 go_enter Tryd.func35, Tryd.ntmps35
 go_wp2
 refine start_ (n := 16) (S := fun w' => RdD g s a w' ∧ Fr W w' (fun k => k = g) ∧ w'.cell? ⟨g, 0, none⟩ = some (.string s) ∧ w'.cell? ⟨g, 1, none⟩ = some (.int .i64 a)) (ds := []) #[false, false, false, false, false, false, false, false, false, false, false, false, false, false, false, false] (by kernel_rfl) rfl rfl ⟨rd_drew H.out, Fr.refl_drew _ _, c0, c1⟩ (fun hHeld => ?_)
 refine pu (i := 0) (N := some 7) (v := ?_) (a' := ?_) rfl rfl (by kernel_rfl) (fun _ _ _ h => h) (.inl ⟨by rfl, ?_⟩) ?_ ?_; rotate_left
 ·intro w'; go_simp; with_reducible rfl
 rotate_left; · simp only [Act.put, List.setIfInBounds_toArray, List.set_cons_zero, List.set_cons_succ, i64_w, i32_w]; rfl
 refine pu (i := 1) (N := some 8) (v := ?_) (a' := ?_) rfl rfl (by kernel_rfl) (fun _ _ _ h => h) (.inl ⟨by rfl, ?_⟩) ?_ ?_; rotate_left
 ·intro w'; go_simp; with_reducible rfl
 rotate_left; · simp only [Act.put, List.setIfInBounds_toArray, List.set_cons_zero, List.set_cons_succ, i64_w, i32_w]; rfl
 refine pu (i := 2) (N := some 9) (v := ?_) (a' := ?_) rfl rfl (by kernel_rfl) (fun _ _ _ h => h) (.inl ⟨by rfl, ?_⟩) ?_ ?_; rotate_left
 ·intro w'; go_simp; with_reducible rfl
 rotate_left; · simp only [Act.put, List.setIfInBounds_toArray, List.set_cons_zero, List.set_cons_succ, i64_w, i32_w]; rfl
 refine pu (i := 4) (N := some 11) (v := ?_) (a' := ?_) rfl rfl (by kernel_rfl) (fun _ _ _ h => h) (.inl ⟨by rfl, ?_⟩) ?_ ?_; rotate_left
 ·intro w'; go_simp; with_reducible rfl
 rotate_left; · simp only [Act.put, List.setIfInBounds_toArray, List.set_cons_zero, List.set_cons_succ, i64_w, i32_w]; rfl
 refine pu (i := 5) (N := some 12) (v := ?_) (a' := ?_) rfl rfl (by kernel_rfl) (fun _ _ _ h => h) (.inl ⟨by rfl, ?_⟩) ?_ ?_; rotate_left
 ·intro w'; go_simp; with_reducible rfl
 rotate_left; · simp only [Act.put, List.setIfInBounds_toArray, List.set_cons_zero, List.set_cons_succ, i64_w, i32_w]; rfl
 refine pu (i := 6) (N := some 13) (v := ?_) (a' := ?_) rfl rfl (by kernel_rfl) (fun _ _ _ h => h) (.inl ⟨by rfl, ?_⟩) ?_ ?_; rotate_left
 ·intro w'; go_simp; with_reducible rfl
 rotate_left; · simp only [Act.put, List.setIfInBounds_toArray, List.set_cons_zero, List.set_cons_succ, i64_w, i32_w]; rfl
 refine tu (i := 3) (N := some 10) (v := ?_) (a' := ?_) rfl rfl (by kernel_rfl) (fun _ _ _ h => h) (.inl ⟨by rfl, ?_⟩) hHeld ?_ ?_; rotate_left
 ·rintro w' ⟨s0, s1, s2, s3⟩; go_simp; with_reducible rfl
 rotate_left; · simp only [Act.put, List.setIfInBounds_toArray, List.set_cons_zero, List.set_cons_succ, i64_w, i32_w]; rfl
 refine tu (i := 7) (N := some 14) (v := ?_) (a' := ?_) rfl rfl (by kernel_rfl) (fun _ _ _ h => h) (.inl ⟨by rfl, ?_⟩) hHeld ?_ ?_; rotate_left
 ·rintro w' ⟨s0, s1, s2, s3⟩; go_simp; with_reducible rfl
 rotate_left; · simp only [Act.put, List.setIfInBounds_toArray, List.set_cons_zero, List.set_cons_succ, i64_w, i32_w]; rfl
 refine one_ (i := 8) (N := some 15) #[true, true, true, true, true, true, true, true, true, false, false, false, false, false, false, false] rfl rfl (by kernel_rfl) (by decide) (fun K hK => ?_)
 obtain ⟨r0, r1, c0, c1⟩ := hHeld
 refine goes_ Tryd.func58 (by kernel_rfl) rfl #[.string s, .int .i64 a] (by rfl) rfl rfl (by simp only [List.map_toArray, List.map_cons, List.map_nil]; rfl) ?_
 with_reducible refine (name_b HS.out HX.out r0.tab).mono ?_
 rintro e w3 ⟨rfl, hb3⟩
 refine ⟨_, rfl, ?_⟩
 have q0 := rd_below r0 hb3
 have q1 := r1.below hb3
 have c4 : w3.cell? ⟨g, 0, none⟩ = some (.string s) := blk_cell q0.blk 0
 have c5 : w3.cell? ⟨g, 1, none⟩ = some (.int .i64 a) := blk_cell q0.blk 1
 have R1 := am q0
 have F1 := am q1
 clear q0 q1 hb3 r0 r1
 refine hK.out _ _ ⟨R1.out, F1.out, c4, c5⟩ (fun hHeld => ?_)
 clear hK K
 refine norm_ (a' := ?_) ?_ ?_
 rotate_left
 ·show Act.put _ (some 15) _ = _
  simp only [Act.put, List.setIfInBounds_toArray, List.set_cons_zero, List.set_cons_succ, i64_w, i32_w]
  rfl
 refine pu (i := 9) (N := some 6) (v := ?_) (a' := ?_) rfl rfl (by kernel_rfl) (fun _ _ _ h => h) (.inl ⟨by rfl, ?_⟩) ?_ ?_; rotate_left
 ·intro w'; go_simp; with_reducible rfl
 rotate_left; · simp only [Act.put, List.setIfInBounds_toArray, List.set_cons_zero, List.set_cons_succ, i64_w, i32_w]; rfl
 refine pu (i := 10) (N := some 16) (v := ?_) (a' := ?_) rfl rfl (by kernel_rfl) (fun _ _ _ h => h) (.inl ⟨by rfl, ?_⟩) ?_ ?_; rotate_left
 ·intro w'; go_simp; with_reducible rfl
 rotate_left; · simp only [Act.put, List.setIfInBounds_toArray, List.set_cons_zero, List.set_cons_succ, i64_w, i32_w]; rfl
 refine pu (i := 11) (N := some 17) (v := ?_) (a' := ?_) rfl rfl (by kernel_rfl) (fun _ _ _ h => h) (.inl ⟨by rfl, ?_⟩) ?_ ?_; rotate_left
 ·intro w'; go_simp; with_reducible rfl
 rotate_left; · simp only [Act.put, List.setIfInBounds_toArray, List.set_cons_zero, List.set_cons_succ, i64_w, i32_w]; rfl
 refine pu (i := 12) (N := some 18) (v := ?_) (a' := ?_) rfl rfl (by kernel_rfl) (fun _ _ _ h => h) (.inl ⟨by rfl, ?_⟩) ?_ ?_; rotate_left
 ·intro w'; go_simp; with_reducible rfl
 rotate_left; · simp only [Act.put, List.setIfInBounds_toArray, List.set_cons_zero, List.set_cons_succ, i64_w, i32_w]; rfl
 refine pu (i := 13) (N := some 3) (v := ?_) (a' := ?_) rfl rfl (by kernel_rfl) (fun _ _ _ h => h) (.inl ⟨by rfl, ?_⟩) ?_ ?_; rotate_left
 ·intro w'; go_simp; with_reducible rfl
 rotate_left; · simp only [Act.put, List.setIfInBounds_toArray, List.set_cons_zero, List.set_cons_succ, i64_w, i32_w]; rfl
 refine pu (i := 14) (N := some 4) (v := ?_) (a' := ?_) rfl rfl (by kernel_rfl) (fun _ _ _ h => h) (.inl ⟨by rfl, ?_⟩) ?_ ?_; rotate_left
 ·intro w'; go_simp; with_reducible rfl
 rotate_left; · simp only [Act.put, List.setIfInBounds_toArray, List.set_cons_zero, List.set_cons_succ, i64_w, i32_w]; rfl
 refine pu (i := 15) (N := some 5) (v := ?_) (a' := ?_) rfl rfl (by kernel_rfl) (fun _ _ _ h => h) (.inl ⟨by rfl, ?_⟩) ?_ ?_; rotate_left
 ·intro w'; go_simp; with_reducible rfl
 rotate_left; · simp only [Act.put, List.setIfInBounds_toArray, List.set_cons_zero, List.set_cons_succ, i64_w, i32_w]; rfl
 refine done_ (by kernel_rfl) ?_
 go_wp2_with (first
  | (go_at_call 23; (with_reducible refine (need_c _ _ _).mono ?_); rintro e w' ⟨rfl, (⟨hb, rfl⟩ | ⟨hb, rfl⟩)⟩; (exact ⟨rfl, ret_er (by simp only [dName, HX.out, if_pos (bne_eq_false_iff_eq.1 hb)]) rfl F1.out⟩); have Q1 := am (bne_iff_ne.1 hb); clear hb)
  | (go_at_call 23; (with_reducible refine (need_c _ _ _).mono ?_); rintro e w' ⟨rfl, (⟨hb, rfl⟩ | ⟨hb, rfl⟩)⟩; (exact ⟨rfl, ret_er (by simp only [dName, HX.out, if_neg Q1.out, if_neg (ne_of_beq_false hb)]) rfl F1.out⟩); have Q2 := am (eq_of_beq hb); clear hb)
  | ((with_reducible refine gate_store (p := 28) rfl ?_); refine storeCell_event (g := g) (j := 1) (x := .int .i64 y) rfl rfl rfl rfl rfl R1.out.blk (by simp) (by kernel_rfl) rfl ?_; intro w2 hA hb ho hs; have R2 := am (rd_put R1.out (show 0 ≤ y by first | exact (B1.out Q2.out).1 | exact (B1.out Q2.out).2) (by first | exact (B1.out Q2.out).1 | exact (B1.out Q2.out).2) hA (Fr.stored (S := fun k => k = g) hb ho hs rfl)); have F2 := am (F1.out.then_ (Fr.stored (S := fun k => k = g) hb ho hs rfl) (fun k hk => .inl hk)); clear hA hb ho hs))
 go_ret
 exact ret_ok (x := x) (by simp only [dName, HX.out, if_pos Q2.out, if_neg Q1.out]) rfl rfl R2.out F2.out
theorem pGet_rng {s : ByteArray} {a a1 : Int} {xs : List S110} (h : pGet s a = .ok (xs, a1)) : 0 ≤ a1 ∧ a1 ≤ s.size := by
 unfold pGet at h
 split at h
 ·cases h
 ·split at h
  ·rename_i h0 _ _ _ _ _ heq
   cases h
   have := EInstr.pList_mon s _ _ _ _ _ _ _ _ _ heq (by omega) (by omega)
   omega
  ·cases h
set_option maxHeartbeats 1000000 in
theorem instrs_c {g : Nat} {s : ByteArray} {a : Int} {W : World} (h : RdD g s a W) : Calls Tryd.prog 63 #[.pointer (some ⟨g, 0, none⟩)] W (Ret (vL k110 110) g s W (dInstrs s a)) := by
 have H := am h
 have c0 : W.cell? ⟨g, 0, none⟩ = some (.string s) := blk_cell h.blk 0
 have c1 : W.cell? ⟨g, 1, none⟩ = some (.int .i64 a) := blk_cell h.blk 1
 have HS := am (show s.size ≤ 140737488355328 by have := h.sz; omega)
 clear h
 cases hx : pGet s a with
 | ok p =>
  obtain ⟨xs, a1⟩ := p
  have HX := am hx
  have B1 := am (pGet_rng hx)
  clear hx
  go_enter Tryd.func63, Tryd.ntmps63
  go_wp2
  refine start_ (n := 16) (S := fun w' => RdD g s a w' ∧ Fr W w' (fun k => k = g) ∧ w'.cell? ⟨g, 0, none⟩ = some (.string s) ∧ w'.cell? ⟨g, 1, none⟩ = some (.int .i64 a)) (ds := []) #[false, false, false, false, false, false, false, false, false, false, false, false, false, false, false, false] (by kernel_rfl) rfl rfl ⟨rd_drew H.out, Fr.refl_drew _ _, c0, c1⟩ (fun hHeld => ?_)
  refine pu (i := 0) (N := some 7) (v := ?_) (a' := ?_) rfl rfl (by kernel_rfl) (fun _ _ _ h => h) (.inl ⟨by rfl, ?_⟩) ?_ ?_; rotate_left
  ·intro w'; go_simp; with_reducible rfl
  rotate_left; · simp only [Act.put, List.setIfInBounds_toArray, List.set_cons_zero, List.set_cons_succ, i64_w, i32_w]; rfl
  refine pu (i := 1) (N := some 8) (v := ?_) (a' := ?_) rfl rfl (by kernel_rfl) (fun _ _ _ h => h) (.inl ⟨by rfl, ?_⟩) ?_ ?_; rotate_left
  ·intro w'; go_simp; with_reducible rfl
  rotate_left; · simp only [Act.put, List.setIfInBounds_toArray, List.set_cons_zero, List.set_cons_succ, i64_w, i32_w]; rfl
  refine pu (i := 2) (N := some 9) (v := ?_) (a' := ?_) rfl rfl (by kernel_rfl) (fun _ _ _ h => h) (.inl ⟨by rfl, ?_⟩) ?_ ?_; rotate_left
  ·intro w'; go_simp; with_reducible rfl
  rotate_left; · simp only [Act.put, List.setIfInBounds_toArray, List.set_cons_zero, List.set_cons_succ, i64_w, i32_w]; rfl
  refine pu (i := 4) (N := some 11) (v := ?_) (a' := ?_) rfl rfl (by kernel_rfl) (fun _ _ _ h => h) (.inl ⟨by rfl, ?_⟩) ?_ ?_; rotate_left
  ·intro w'; go_simp; with_reducible rfl
  rotate_left; · simp only [Act.put, List.setIfInBounds_toArray, List.set_cons_zero, List.set_cons_succ, i64_w, i32_w]; rfl
  refine pu (i := 5) (N := some 12) (v := ?_) (a' := ?_) rfl rfl (by kernel_rfl) (fun _ _ _ h => h) (.inl ⟨by rfl, ?_⟩) ?_ ?_; rotate_left
  ·intro w'; go_simp; with_reducible rfl
  rotate_left; · simp only [Act.put, List.setIfInBounds_toArray, List.set_cons_zero, List.set_cons_succ, i64_w, i32_w]; rfl
  refine pu (i := 6) (N := some 13) (v := ?_) (a' := ?_) rfl rfl (by kernel_rfl) (fun _ _ _ h => h) (.inl ⟨by rfl, ?_⟩) ?_ ?_; rotate_left
  ·intro w'; go_simp; with_reducible rfl
  rotate_left; · simp only [Act.put, List.setIfInBounds_toArray, List.set_cons_zero, List.set_cons_succ, i64_w, i32_w]; rfl
  refine tu (i := 3) (N := some 10) (v := ?_) (a' := ?_) rfl rfl (by kernel_rfl) (fun _ _ _ h => h) (.inl ⟨by rfl, ?_⟩) hHeld ?_ ?_; rotate_left
  ·rintro w' ⟨s0, s1, s2, s3⟩; go_simp; with_reducible rfl
  rotate_left; · simp only [Act.put, List.setIfInBounds_toArray, List.set_cons_zero, List.set_cons_succ, i64_w, i32_w]; rfl
  refine tu (i := 7) (N := some 14) (v := ?_) (a' := ?_) rfl rfl (by kernel_rfl) (fun _ _ _ h => h) (.inl ⟨by rfl, ?_⟩) hHeld ?_ ?_; rotate_left
  ·rintro w' ⟨s0, s1, s2, s3⟩; go_simp; with_reducible rfl
  rotate_left; · simp only [Act.put, List.setIfInBounds_toArray, List.set_cons_zero, List.set_cons_succ, i64_w, i32_w]; rfl
  refine one_ (i := 8) (N := some 15) #[true, true, true, true, true, true, true, true, true, false, false, false, false, false, false, false] rfl rfl (by kernel_rfl) (by decide) (fun K hK => ?_)
  obtain ⟨r0, r1, c0, c1⟩ := hHeld
  refine goes_ Tryd.func69 (by kernel_rfl) rfl #[.string s, .int .i64 a] (by rfl) rfl rfl (by simp only [List.map_toArray, List.map_cons, List.map_nil]; rfl) ?_
  with_reducible refine (EInstr.get_calls HS.out).mono ?_
  rw [HX.out]; rintro e w3 ⟨A, c, rfl, hL, hb3⟩
  refine ⟨_, rfl, ?_⟩
  have q0 := rd_below r0 hb3
  have q1 := r1.below hb3
  have c4 : w3.cell? ⟨g, 0, none⟩ = some (.string s) := blk_cell q0.blk 0
  have c5 : w3.cell? ⟨g, 1, none⟩ = some (.int .i64 a) := blk_cell q0.blk 1
  have R1 := am q0
  have F1 := am q1
  have L1 := am (Kd.R_mono hL (fun k hk => Nat.le_trans r1.size hk))
  clear hL q0 q1 hb3 r0 r1
  refine hK.out _ _ ⟨R1.out, F1.out, c4, c5⟩ (fun hHeld => ?_)
  clear hK K
  refine norm_ (a' := ?_) ?_ ?_
  rotate_left
  ·show Act.put _ (some 15) _ = _
   simp only [Act.put, List.setIfInBounds_toArray, List.set_cons_zero, List.set_cons_succ, i64_w, i32_w]
   rfl
  refine pu (i := 9) (N := some 6) (v := ?_) (a' := ?_) rfl rfl (by kernel_rfl) (fun _ _ _ h => h) (.inl ⟨by rfl, ?_⟩) ?_ ?_; rotate_left
  ·intro w'; go_simp; with_reducible rfl
  rotate_left; · simp only [Act.put, List.setIfInBounds_toArray, List.set_cons_zero, List.set_cons_succ, i64_w, i32_w]; rfl
  refine pu (i := 10) (N := some 16) (v := ?_) (a' := ?_) rfl rfl (by kernel_rfl) (fun _ _ _ h => h) (.inl ⟨by rfl, ?_⟩) ?_ ?_; rotate_left
  ·intro w'; go_simp; with_reducible rfl
  rotate_left; · simp only [Act.put, List.setIfInBounds_toArray, List.set_cons_zero, List.set_cons_succ, i64_w, i32_w]; rfl
  refine pu (i := 11) (N := some 17) (v := ?_) (a' := ?_) rfl rfl (by kernel_rfl) (fun _ _ _ h => h) (.inl ⟨by rfl, ?_⟩) ?_ ?_; rotate_left
  ·intro w'; go_simp; with_reducible rfl
  rotate_left; · simp only [Act.put, List.setIfInBounds_toArray, List.set_cons_zero, List.set_cons_succ, i64_w, i32_w]; rfl
  refine pu (i := 12) (N := some 18) (v := ?_) (a' := ?_) rfl rfl (by kernel_rfl) (fun _ _ _ h => h) (.inl ⟨by rfl, ?_⟩) ?_ ?_; rotate_left
  ·intro w'; go_simp; with_reducible rfl
  rotate_left; · simp only [Act.put, List.setIfInBounds_toArray, List.set_cons_zero, List.set_cons_succ, i64_w, i32_w]; rfl
  refine pu (i := 13) (N := some 3) (v := ?_) (a' := ?_) rfl rfl (by kernel_rfl) (fun _ _ _ h => h) (.inl ⟨by rfl, ?_⟩) ?_ ?_; rotate_left
  ·intro w'; go_simp; with_reducible rfl
  rotate_left; · simp only [Act.put, List.setIfInBounds_toArray, List.set_cons_zero, List.set_cons_succ, i64_w, i32_w]; rfl
  refine pu (i := 14) (N := some 4) (v := ?_) (a' := ?_) rfl rfl (by kernel_rfl) (fun _ _ _ h => h) (.inl ⟨by rfl, ?_⟩) ?_ ?_; rotate_left
  ·intro w'; go_simp; with_reducible rfl
  rotate_left; · simp only [Act.put, List.setIfInBounds_toArray, List.set_cons_zero, List.set_cons_succ, i64_w, i32_w]; rfl
  refine pu (i := 15) (N := some 5) (v := ?_) (a' := ?_) rfl rfl (by kernel_rfl) (fun _ _ _ h => h) (.inl ⟨by rfl, ?_⟩) ?_ ?_; rotate_left
  ·intro w'; go_simp; with_reducible rfl
  rotate_left; · simp only [Act.put, List.setIfInBounds_toArray, List.set_cons_zero, List.set_cons_succ, i64_w, i32_w]; rfl
  refine done_ (by kernel_rfl) ?_
  go_wp2_with (first
   | (go_at_call 23; (with_reducible refine (need_yes _ _).mono ?_); rintro e w' ⟨rfl, rfl⟩)
   | ((with_reducible refine gate_store (p := 28) rfl ?_); refine storeCell_event (g := g) (j := 1) (x := .int .i64 a1) rfl rfl rfl rfl rfl R1.out.blk (by simp) (by kernel_rfl) rfl ?_; intro w2 hA hb ho hs; have L2 := am (Kd.R_mono (Kd.R_step (Kd.R_types L1.out R1.out.blk (by decide)) (fun k hk _ => ho k hk.2)) (fun _ hk => hk.1)); have R2 := am (rd_put R1.out B1.out.1 B1.out.2 hA (Fr.stored (S := fun k => k = g) hb ho hs rfl)); have F2 := am (F1.out.then_ (Fr.stored (S := fun k => k = g) hb ho hs rfl) (fun k hk => .inl hk)); clear hA hb ho hs))
  go_ret
  exact ret_ok (x := xs) (by simp only [dInstrs, HX.out]) rfl L2.out R2.out F2.out
 | error c =>
  have HX := am hx
  clear hx
  go_enter Tryd.func63, Tryd.ntmps63
  go_wp2
  refine start_ (n := 16) (S := fun w' => RdD g s a w' ∧ Fr W w' (fun k => k = g) ∧ w'.cell? ⟨g, 0, none⟩ = some (.string s) ∧ w'.cell? ⟨g, 1, none⟩ = some (.int .i64 a)) (ds := []) #[false, false, false, false, false, false, false, false, false, false, false, false, false, false, false, false] (by kernel_rfl) rfl rfl ⟨rd_drew H.out, Fr.refl_drew _ _, c0, c1⟩ (fun hHeld => ?_)
  refine pu (i := 0) (N := some 7) (v := ?_) (a' := ?_) rfl rfl (by kernel_rfl) (fun _ _ _ h => h) (.inl ⟨by rfl, ?_⟩) ?_ ?_; rotate_left
  ·intro w'; go_simp; with_reducible rfl
  rotate_left; · simp only [Act.put, List.setIfInBounds_toArray, List.set_cons_zero, List.set_cons_succ, i64_w, i32_w]; rfl
  refine pu (i := 1) (N := some 8) (v := ?_) (a' := ?_) rfl rfl (by kernel_rfl) (fun _ _ _ h => h) (.inl ⟨by rfl, ?_⟩) ?_ ?_; rotate_left
  ·intro w'; go_simp; with_reducible rfl
  rotate_left; · simp only [Act.put, List.setIfInBounds_toArray, List.set_cons_zero, List.set_cons_succ, i64_w, i32_w]; rfl
  refine pu (i := 2) (N := some 9) (v := ?_) (a' := ?_) rfl rfl (by kernel_rfl) (fun _ _ _ h => h) (.inl ⟨by rfl, ?_⟩) ?_ ?_; rotate_left
  ·intro w'; go_simp; with_reducible rfl
  rotate_left; · simp only [Act.put, List.setIfInBounds_toArray, List.set_cons_zero, List.set_cons_succ, i64_w, i32_w]; rfl
  refine pu (i := 4) (N := some 11) (v := ?_) (a' := ?_) rfl rfl (by kernel_rfl) (fun _ _ _ h => h) (.inl ⟨by rfl, ?_⟩) ?_ ?_; rotate_left
  ·intro w'; go_simp; with_reducible rfl
  rotate_left; · simp only [Act.put, List.setIfInBounds_toArray, List.set_cons_zero, List.set_cons_succ, i64_w, i32_w]; rfl
  refine pu (i := 5) (N := some 12) (v := ?_) (a' := ?_) rfl rfl (by kernel_rfl) (fun _ _ _ h => h) (.inl ⟨by rfl, ?_⟩) ?_ ?_; rotate_left
  ·intro w'; go_simp; with_reducible rfl
  rotate_left; · simp only [Act.put, List.setIfInBounds_toArray, List.set_cons_zero, List.set_cons_succ, i64_w, i32_w]; rfl
  refine pu (i := 6) (N := some 13) (v := ?_) (a' := ?_) rfl rfl (by kernel_rfl) (fun _ _ _ h => h) (.inl ⟨by rfl, ?_⟩) ?_ ?_; rotate_left
  ·intro w'; go_simp; with_reducible rfl
  rotate_left; · simp only [Act.put, List.setIfInBounds_toArray, List.set_cons_zero, List.set_cons_succ, i64_w, i32_w]; rfl
  refine tu (i := 3) (N := some 10) (v := ?_) (a' := ?_) rfl rfl (by kernel_rfl) (fun _ _ _ h => h) (.inl ⟨by rfl, ?_⟩) hHeld ?_ ?_; rotate_left
  ·rintro w' ⟨s0, s1, s2, s3⟩; go_simp; with_reducible rfl
  rotate_left; · simp only [Act.put, List.setIfInBounds_toArray, List.set_cons_zero, List.set_cons_succ, i64_w, i32_w]; rfl
  refine tu (i := 7) (N := some 14) (v := ?_) (a' := ?_) rfl rfl (by kernel_rfl) (fun _ _ _ h => h) (.inl ⟨by rfl, ?_⟩) hHeld ?_ ?_; rotate_left
  ·rintro w' ⟨s0, s1, s2, s3⟩; go_simp; with_reducible rfl
  rotate_left; · simp only [Act.put, List.setIfInBounds_toArray, List.set_cons_zero, List.set_cons_succ, i64_w, i32_w]; rfl
  refine one_ (i := 8) (N := some 15) #[true, true, true, true, true, true, true, true, true, false, false, false, false, false, false, false] rfl rfl (by kernel_rfl) (by decide) (fun K hK => ?_)
  obtain ⟨r0, r1, c0, c1⟩ := hHeld
  refine goes_ Tryd.func69 (by kernel_rfl) rfl #[.string s, .int .i64 a] (by rfl) rfl rfl (by simp only [List.map_toArray, List.map_cons, List.map_nil]; rfl) ?_
  with_reducible refine (EInstr.get_calls HS.out).mono ?_
  rw [HX.out]; rintro e w3 ⟨rfl, hb3⟩
  refine ⟨_, rfl, ?_⟩
  have q0 := rd_below r0 hb3
  have q1 := r1.below hb3
  have c4 : w3.cell? ⟨g, 0, none⟩ = some (.string s) := blk_cell q0.blk 0
  have c5 : w3.cell? ⟨g, 1, none⟩ = some (.int .i64 a) := blk_cell q0.blk 1
  have R1 := am q0
  have F1 := am q1
  clear q0 q1 hb3 r0 r1
  refine hK.out _ _ ⟨R1.out, F1.out, c4, c5⟩ (fun hHeld => ?_)
  clear hK K
  refine norm_ (a' := ?_) ?_ ?_
  rotate_left
  ·show Act.put _ (some 15) _ = _
   simp only [Act.put, List.setIfInBounds_toArray, List.set_cons_zero, List.set_cons_succ, i64_w, i32_w]
   rfl
  refine pu (i := 9) (N := some 6) (v := ?_) (a' := ?_) rfl rfl (by kernel_rfl) (fun _ _ _ h => h) (.inl ⟨by rfl, ?_⟩) ?_ ?_; rotate_left
  ·intro w'; go_simp; with_reducible rfl
  rotate_left; · simp only [Act.put, List.setIfInBounds_toArray, List.set_cons_zero, List.set_cons_succ, i64_w, i32_w]; rfl
  refine pu (i := 10) (N := some 16) (v := ?_) (a' := ?_) rfl rfl (by kernel_rfl) (fun _ _ _ h => h) (.inl ⟨by rfl, ?_⟩) ?_ ?_; rotate_left
  ·intro w'; go_simp; with_reducible rfl
  rotate_left; · simp only [Act.put, List.setIfInBounds_toArray, List.set_cons_zero, List.set_cons_succ, i64_w, i32_w]; rfl
  refine pu (i := 11) (N := some 17) (v := ?_) (a' := ?_) rfl rfl (by kernel_rfl) (fun _ _ _ h => h) (.inl ⟨by rfl, ?_⟩) ?_ ?_; rotate_left
  ·intro w'; go_simp; with_reducible rfl
  rotate_left; · simp only [Act.put, List.setIfInBounds_toArray, List.set_cons_zero, List.set_cons_succ, i64_w, i32_w]; rfl
  refine pu (i := 12) (N := some 18) (v := ?_) (a' := ?_) rfl rfl (by kernel_rfl) (fun _ _ _ h => h) (.inl ⟨by rfl, ?_⟩) ?_ ?_; rotate_left
  ·intro w'; go_simp; with_reducible rfl
  rotate_left; · simp only [Act.put, List.setIfInBounds_toArray, List.set_cons_zero, List.set_cons_succ, i64_w, i32_w]; rfl
  refine pu (i := 13) (N := some 3) (v := ?_) (a' := ?_) rfl rfl (by kernel_rfl) (fun _ _ _ h => h) (.inl ⟨by rfl, ?_⟩) ?_ ?_; rotate_left
  ·intro w'; go_simp; with_reducible rfl
  rotate_left; · simp only [Act.put, List.setIfInBounds_toArray, List.set_cons_zero, List.set_cons_succ, i64_w, i32_w]; rfl
  refine pu (i := 14) (N := some 4) (v := ?_) (a' := ?_) rfl rfl (by kernel_rfl) (fun _ _ _ h => h) (.inl ⟨by rfl, ?_⟩) ?_ ?_; rotate_left
  ·intro w'; go_simp; with_reducible rfl
  rotate_left; · simp only [Act.put, List.setIfInBounds_toArray, List.set_cons_zero, List.set_cons_succ, i64_w, i32_w]; rfl
  refine pu (i := 15) (N := some 5) (v := ?_) (a' := ?_) rfl rfl (by kernel_rfl) (fun _ _ _ h => h) (.inl ⟨by rfl, ?_⟩) ?_ ?_; rotate_left
  ·intro w'; go_simp; with_reducible rfl
  rotate_left; · simp only [Act.put, List.setIfInBounds_toArray, List.set_cons_zero, List.set_cons_succ, i64_w, i32_w]; rfl
  refine done_ (by kernel_rfl) ?_
  go_wp2_with (first
   | (go_at_call 23; (with_reducible refine (need_c _ _ _).mono ?_); rintro e w' ⟨rfl, (⟨hb, rfl⟩ | ⟨hb, rfl⟩)⟩; (exact ⟨rfl, ret_er (by simp only [dInstrs, HX.out, if_pos (bne_eq_false_iff_eq.1 hb)]) rfl F1.out⟩); have Q1 := am (bne_iff_ne.1 hb); clear hb)
   | (go_at_call 23; (with_reducible refine (need_c _ _ _).mono ?_); rintro e w' ⟨rfl, (⟨hb, rfl⟩ | ⟨hb, rfl⟩)⟩; (exact ⟨rfl, ret_er (by simp only [dInstrs, HX.out, if_neg Q1.out, if_neg (ne_of_beq_false hb)]) rfl F1.out⟩); have Q2 := am (eq_of_beq hb); clear hb)
   | ((with_reducible refine gate_store (p := 28) rfl ?_); refine storeCell_event (g := g) (j := 1) (x := .int .i64 0) rfl rfl rfl rfl rfl R1.out.blk (by simp) (by kernel_rfl) rfl ?_; intro w2 hA hb ho hs; have R2 := am (rd_put R1.out (show 0 ≤ 0 by first | exact Int.le_refl _ | exact Int.natCast_nonneg _) (by first | exact Int.le_refl _ | exact Int.natCast_nonneg _) hA (Fr.stored (S := fun k => k = g) hb ho hs rfl)); have F2 := am (F1.out.then_ (Fr.stored (S := fun k => k = g) hb ho hs rfl) (fun k hk => .inl hk)); clear hA hb ho hs))
  go_ret
  exact ret_ok (x := []) (by simp only [dInstrs, HX.out, if_pos Q2.out, if_neg Q1.out]) rfl (Kd.R_nil _ _ _ _ _) R2.out F2.out
set_option maxHeartbeats 2000000 in
set_option maxRecDepth 100000 in
theorem limits_c {g : Nat} {s : ByteArray} {a : Int} {W : World} (h : RdD g s a W) : Calls Tryd.prog 44 #[.pointer (some ⟨g, 0, none⟩)] W (Ret (vM k54) g s W (dLimits s a)) := by
 have R0 := am h
 have F0 : Aside0 (Fr W W (fun k => k = g)) := ⟨Fr.refl _ _⟩
 clear h
 go_enter Tryd.func44, Tryd.ntmps44
 go_wp2_with (first
  | ((with_reducible refine gate_dst (N := 2) rfl ?_); refine box_event ?hg (N := 2) ?hd (cs := #[.int .i64 0, .int .i64 0]) (t := 54) ?hr ?_; (case hd => rfl); (case hg => rfl); (case hr => first | (go_simp; done) | (go_simp; rfl)); intro gr hggr w1 hA hb; have Kr_1 := am hA; have R1 := am (rd_below R0.out hb); have F1 := am (F0.out.below hb); have Nr := am (show g < gr by have := blk_lt R0.out.blk; omega); have Gr := am (show W.heap.size ≤ gr by have := F0.out.size; omega); (try clear yr0 yr1); have yr0 : w1.cell? ⟨gr, 0, none⟩ = some (.int .i64 0) := blk_cell Kr_1.out 0; have yr1 : w1.cell? ⟨gr, 1, none⟩ = some (.int .i64 0) := blk_cell Kr_1.out 1; clear hggr hA hb R0 F0  )
  | (go_at_call 62; (with_reducible refine (flag_c R1.out).mono ?_); intro e w2 hh; rcases ret_cases hh with ⟨c, hc, rfl, hf⟩ | ⟨has, a1, v, hx, rfl, hv, hr, hf⟩; (exact ⟨rfl, ret_er (by simp only [dLimits, bnd_er hc]) rfl (F1.out.then_ hf (fun k hk => .inl hk))⟩); (have hv : v = .bool has := hv); subst hv; have R2 := am hr; have F2 := am (F1.out.then_ hf (fun k hk => .inl hk)); have X1 := am hx; have Kr_2 := am (hf.block Kr_1.out (fun h => Nat.ne_of_gt Nr.out h)); (try clear yr0 yr1); have yr0 : w2.cell? ⟨gr, 0, none⟩ = some (.int .i64 0) := blk_cell Kr_2.out 0; have yr1 : w2.cell? ⟨gr, 1, none⟩ = some (.int .i64 0) := blk_cell Kr_2.out 1; clear hh hr hf hx R1 F1 Kr_1 )
  | (go_at_call 41; (with_reducible refine (number_c R2.out).mono ?_); intro e w3 hh; rcases ret_cases hh with ⟨c, hc, rfl, hf⟩ | ⟨x, a2, v, hx, rfl, hv, hr, hf⟩; (exact ⟨rfl, ret_er (by simp only [dLimits, bnd_ok X1.out, bnd_er hc]) rfl (F2.out.then_ hf (fun k hk => .inl hk))⟩); (have hv : v = .int .i64 x := hv); subst hv; have R3 := am hr; have F3 := am (F2.out.then_ hf (fun k hk => .inl hk)); have X2 := am hx; have Kr_3 := am (hf.block Kr_2.out (fun h => Nat.ne_of_gt Nr.out h)); (try clear yr0 yr1); have yr0 : w3.cell? ⟨gr, 0, none⟩ = some (.int .i64 0) := blk_cell Kr_3.out 0; have yr1 : w3.cell? ⟨gr, 1, none⟩ = some (.int .i64 0) := blk_cell Kr_3.out 1; clear hh hr hf hx R2 F2 Kr_2 )
  | ((with_reducible refine gate_dst (N := 4) rfl ?_); refine box_event ?hg (N := 4) ?hd (cs := #[.int .i64 0, .int .i64 0]) (t := 54) ?hr ?_; (case hd => rfl); (case hg => rfl); (case hr => first | (go_simp; done) | (go_simp; rfl)); intro gl hggl w4 hA hb; have Kl_4 := am hA; have R4 := am (rd_below R3.out hb); have F4 := am (F3.out.below hb); have Nl := am (show g < gl by have := blk_lt R3.out.blk; omega); have Gl := am (show W.heap.size ≤ gl by have := F3.out.size; omega); have Kr_4 := am (blk_below Kr_3.out hb); have NErl := am (show gr ≠ gl by have := blk_lt Kr_3.out; omega); (try clear yr0 yr1); have yr0 : w4.cell? ⟨gr, 0, none⟩ = some (.int .i64 0) := blk_cell Kr_4.out 0; have yr1 : w4.cell? ⟨gr, 1, none⟩ = some (.int .i64 0) := blk_cell Kr_4.out 1; (try clear yl0 yl1); have yl0 : w4.cell? ⟨gl, 0, none⟩ = some (.int .i64 0) := blk_cell Kl_4.out 0; have yl1 : w4.cell? ⟨gl, 1, none⟩ = some (.int .i64 0) := blk_cell Kl_4.out 1; clear hggl hA hb R3 F3 Kr_3 )
  | ((with_reducible refine gate_store (p := 4) rfl ?_); refine storeRow_event (g := gl) rfl rfl rfl (cs := #[.int .i64 x, .int .i64 (-1)]) rfl rfl Kl_4.out (by kernel_rfl) rfl (by simp [Value.oneCell']) ?_; intro w5 hA hb ho hs; have Kl_5 := am hA; have R5 := am (rd_other R4.out (Fr.stored (S := fun k => k = gl) hb ho hs rfl) Nl.out); have F5 := am (fr_new F4.out (Fr.stored (S := fun k => k = gl) hb ho hs rfl) Gl.out); have Kr_5 := am ((ho gr NErl.out).trans Kr_4.out); (try clear yr0 yr1); have yr0 : w5.cell? ⟨gr, 0, none⟩ = some (.int .i64 0) := blk_cell Kr_5.out 0; have yr1 : w5.cell? ⟨gr, 1, none⟩ = some (.int .i64 0) := blk_cell Kr_5.out 1; (try clear yl0 yl1); have yl0 : w5.cell? ⟨gl, 0, none⟩ = some (.int .i64 x) := blk_cell Kl_5.out 0; have yl1 : w5.cell? ⟨gl, 1, none⟩ = some (.int .i64 (-1)) := blk_cell Kl_5.out 1; clear hA hb ho hs R4 F4 Kr_4 Kl_4 )
  | (go_at_call 41; (with_reducible refine (number_c R5.out).mono ?_); intro e w6 hh; rcases ret_cases hh with ⟨c, hc, rfl, hf⟩ | ⟨y, a3, v, hx, rfl, hv, hr, hf⟩; (exact ⟨rfl, ret_er (by simp only [dLimits, bnd_ok X1.out, bnd_ok X2.out, if_pos ‹has = true›, bnd_er hc]) rfl (F5.out.then_ hf (fun k hk => .inl hk))⟩); (have hv : v = .int .i64 y := hv); subst hv; have R6 := am hr; have F6 := am (F5.out.then_ hf (fun k hk => .inl hk)); have X3 := am hx; have Kr_6 := am (hf.block Kr_5.out (fun h => Nat.ne_of_gt Nr.out h)); have Kl_6 := am (hf.block Kl_5.out (fun h => Nat.ne_of_gt Nl.out h)); (try clear yr0 yr1); have yr0 : w6.cell? ⟨gr, 0, none⟩ = some (.int .i64 0) := blk_cell Kr_6.out 0; have yr1 : w6.cell? ⟨gr, 1, none⟩ = some (.int .i64 0) := blk_cell Kr_6.out 1; (try clear yl0 yl1); have yl0 : w6.cell? ⟨gl, 0, none⟩ = some (.int .i64 x) := blk_cell Kl_6.out 0; have yl1 : w6.cell? ⟨gl, 1, none⟩ = some (.int .i64 (-1)) := blk_cell Kl_6.out 1; clear hh hr hf hx R5 F5 Kr_5 Kl_5 )
  | ((with_reducible refine gate_store (p := 13) rfl ?_); refine storeCell_event (g := gl) (j := 1) (x := .int .i64 y) rfl rfl rfl rfl rfl Kl_6.out (by simp) (by kernel_rfl) rfl ?_; intro w7 hA hb ho hs; have Kl_7 : Aside0 (w7.heap[gl]? = some (.cells #[.int .i64 x, .int .i64 y] 54 (0, 0))) := ⟨hA⟩; have R7 := am (rd_other R6.out (Fr.stored (S := fun k => k = gl) hb ho hs rfl) Nl.out); have F7 := am (fr_new F6.out (Fr.stored (S := fun k => k = gl) hb ho hs rfl) Gl.out); have Kr_7 := am ((ho gr NErl.out).trans Kr_6.out); (try clear yr0 yr1); have yr0 : w7.cell? ⟨gr, 0, none⟩ = some (.int .i64 0) := blk_cell Kr_7.out 0; have yr1 : w7.cell? ⟨gr, 1, none⟩ = some (.int .i64 0) := blk_cell Kr_7.out 1; (try clear yl0 yl1); have yl0 : w7.cell? ⟨gl, 0, none⟩ = some (.int .i64 x) := blk_cell Kl_7.out 0; have yl1 : w7.cell? ⟨gl, 1, none⟩ = some (.int .i64 y) := blk_cell Kl_7.out 1; clear hA hb ho hs R6 F6 Kr_6 Kl_6 )
  | ((with_reducible refine gate_store (p := 2) rfl ?_); refine storeRow_event (g := gr) rfl rfl rfl (cs := #[.int .i64 x, .int .i64 y]) rfl rfl Kr_7.out (by kernel_rfl) rfl (by simp [Value.oneCell']) ?_; intro w8 hA hb ho hs; have Kr_8 := am hA; have R8 := am (rd_other R7.out (Fr.stored (S := fun k => k = gr) hb ho hs rfl) Nr.out); have F8 := am (fr_new F7.out (Fr.stored (S := fun k => k = gr) hb ho hs rfl) Gr.out); have Kl_8 := am ((ho gl (Ne.symm NErl.out)).trans Kl_7.out); (try clear yr0 yr1); have yr0 : w8.cell? ⟨gr, 0, none⟩ = some (.int .i64 x) := blk_cell Kr_8.out 0; have yr1 : w8.cell? ⟨gr, 1, none⟩ = some (.int .i64 y) := blk_cell Kr_8.out 1; (try clear yl0 yl1); have yl0 : w8.cell? ⟨gl, 0, none⟩ = some (.int .i64 x) := blk_cell Kl_8.out 0; have yl1 : w8.cell? ⟨gl, 1, none⟩ = some (.int .i64 y) := blk_cell Kl_8.out 1; clear hA hb ho hs R7 F7 Kr_7 Kl_7 )
  | ((with_reducible refine gate_store (p := 2) rfl ?_); refine storeRow_event (g := gr) rfl rfl rfl (cs := #[.int .i64 x, .int .i64 (-1)]) rfl rfl Kr_5.out (by kernel_rfl) rfl (by simp [Value.oneCell']) ?_; intro w6 hA hb ho hs; have Kr_6 := am hA; have R6 := am (rd_other R5.out (Fr.stored (S := fun k => k = gr) hb ho hs rfl) Nr.out); have F6 := am (fr_new F5.out (Fr.stored (S := fun k => k = gr) hb ho hs rfl) Gr.out); have Kl_6 := am ((ho gl (Ne.symm NErl.out)).trans Kl_5.out); (try clear yr0 yr1); have yr0 : w6.cell? ⟨gr, 0, none⟩ = some (.int .i64 x) := blk_cell Kr_6.out 0; have yr1 : w6.cell? ⟨gr, 1, none⟩ = some (.int .i64 (-1)) := blk_cell Kr_6.out 1; (try clear yl0 yl1); have yl0 : w6.cell? ⟨gl, 0, none⟩ = some (.int .i64 x) := blk_cell Kl_6.out 0; have yl1 : w6.cell? ⟨gl, 1, none⟩ = some (.int .i64 (-1)) := blk_cell Kl_6.out 1; clear hA hb ho hs R5 F5 Kr_5 Kl_5 ))
 ·exact bodyPost_ret (v := .agg #[.int .i64 x, .int .i64 y]) (by simp [results, Tryd.f44, go_sem, yr0, yr1]) rfl (ret_ok (x := ⟨x, y⟩) (by simp only [dLimits, bnd_ok X1.out, bnd_ok X2.out, if_pos ‹has = true›, bnd_ok X3.out]) rfl (⟨[.int .i64 x, .int .i64 y], rfl, k54_mkM _ _ _ ⟨x, y⟩⟩) R8.out F8.out)
 ·exact bodyPost_ret (v := .agg #[.int .i64 x, .int .i64 (-1)]) (by simp [results, Tryd.f44, go_sem, yr0, yr1]) rfl (ret_ok (x := ⟨x, -1⟩) (by simp only [dLimits, bnd_ok X1.out, bnd_ok X2.out, if_neg (nt ‹has = false›)]) rfl (⟨[.int .i64 x, .int .i64 (-1)], rfl, k54_mkM _ _ _ ⟨x, -1⟩⟩) R6.out F6.out)
set_option maxHeartbeats 2000000 in
set_option maxRecDepth 100000 in
theorem table_c {g : Nat} {s : ByteArray} {a : Int} {W : World} (h : RdD g s a W) : Calls Tryd.prog 43 #[.pointer (some ⟨g, 0, none⟩)] W (Ret (vM k54) g s W (dTable s a)) := by
 have R0 := am h
 have F0 : Aside0 (Fr W W (fun k => k = g)) := ⟨Fr.refl _ _⟩
 clear h
 go_enter Tryd.func43, Tryd.ntmps43
 go_wp2_with (first
  | ((with_reducible refine gate_dst (N := 2) rfl ?_); refine box_event ?hg (N := 2) ?hd (cs := #[.int .i64 0, .int .i64 0]) (t := 54) ?hr ?_; (case hd => rfl); (case hg => rfl); (case hr => first | (go_simp; done) | (go_simp; rfl)); intro gr hggr w1 hA hb; have Kr_1 := am hA; have R1 := am (rd_below R0.out hb); have F1 := am (F0.out.below hb); have Nr := am (show g < gr by have := blk_lt R0.out.blk; omega); have Gr := am (show W.heap.size ≤ gr by have := F0.out.size; omega); (try clear yr0 yr1); have yr0 : w1.cell? ⟨gr, 0, none⟩ = some (.int .i64 0) := blk_cell Kr_1.out 0; have yr1 : w1.cell? ⟨gr, 1, none⟩ = some (.int .i64 0) := blk_cell Kr_1.out 1; clear hggr hA hb R0 F0  )
  | (go_at_call 59; (with_reducible refine (exact_c (x := 112) R1.out).mono ?_); intro e w2 hh; rcases ret_cases hh with ⟨c, hc, rfl, hf⟩ | ⟨xu, a1, v, hx, rfl, hv, hr, hf⟩; (exact ⟨rfl, ret_er (by simp only [dTable, bnd_er hc]) rfl (F1.out.then_ hf (fun k hk => .inl hk))⟩); (have hv : v = .tuple #[] := hv); subst hv; have R2 := am hr; have F2 := am (F1.out.then_ hf (fun k hk => .inl hk)); have X1 := am hx; have Kr_2 := am (hf.block Kr_1.out (fun h => Nat.ne_of_gt Nr.out h)); (try clear yr0 yr1); have yr0 : w2.cell? ⟨gr, 0, none⟩ = some (.int .i64 0) := blk_cell Kr_2.out 0; have yr1 : w2.cell? ⟨gr, 1, none⟩ = some (.int .i64 0) := blk_cell Kr_2.out 1; clear hh hr hf hx R1 F1 Kr_1 )
  | (go_at_call 44; (with_reducible refine (limits_c R2.out).mono ?_); intro e w3 hh; rcases ret_cases hh with ⟨c, hc, rfl, hf⟩ | ⟨x, a2, v, hx, rfl, hv, hr, hf⟩; (exact ⟨rfl, ret_er (by simp only [dTable, bnd_ok X1.out, bnd_er hc]) rfl (F2.out.then_ hf (fun k hk => .inl hk))⟩); obtain ⟨cs, rfl, hM⟩ := hv; obtain rfl := k54_openM hM; clear hM; have R3 := am hr; have F3 := am (F2.out.then_ hf (fun k hk => .inl hk)); have X2 := am hx; have Kr_3 := am (hf.block Kr_2.out (fun h => Nat.ne_of_gt Nr.out h)); (try clear yr0 yr1); have yr0 : w3.cell? ⟨gr, 0, none⟩ = some (.int .i64 0) := blk_cell Kr_3.out 0; have yr1 : w3.cell? ⟨gr, 1, none⟩ = some (.int .i64 0) := blk_cell Kr_3.out 1; clear hh hr hf hx R2 F2 Kr_2 )
  | ((with_reducible refine gate_store (p := 2) rfl ?_); refine storeRow_event (g := gr) rfl rfl rfl (cs := #[.int .i64 x.f0, .int .i64 x.f1]) rfl rfl Kr_3.out (by kernel_rfl) rfl (by simp [Value.oneCell']) ?_; intro w4 hA hb ho hs; have Kr_4 := am hA; have R4 := am (rd_other R3.out (Fr.stored (S := fun k => k = gr) hb ho hs rfl) Nr.out); have F4 := am (fr_new F3.out (Fr.stored (S := fun k => k = gr) hb ho hs rfl) Gr.out); (try clear yr0 yr1); have yr0 : w4.cell? ⟨gr, 0, none⟩ = some (.int .i64 x.f0) := blk_cell Kr_4.out 0; have yr1 : w4.cell? ⟨gr, 1, none⟩ = some (.int .i64 x.f1) := blk_cell Kr_4.out 1; clear hA hb ho hs R3 F3 Kr_3 ))
 exact bodyPost_ret (v := .agg #[.int .i64 x.f0, .int .i64 x.f1]) (by simp [results, Tryd.f43, go_sem, yr0, yr1]) rfl (ret_ok (x := x) (by simp only [dTable, bnd_ok X1.out, bnd_ok X2.out]) rfl (⟨[.int .i64 x.f0, .int .i64 x.f1], rfl, k54_mkM _ _ _ x⟩) R4.out F4.out)
end Go.Proofs.YtkdoijfjceeblaaDoor.EDec
end
section
namespace Go.Proofs.YtkdoijfjceeblaaDoor.EDec
open Go Go.RowKit Go.Proofs.YtkdoijfjceeblaaDoor.F Go.Proofs.YtkdoijfjceeblaaDoorW.Hand Go.Proofs.YtkdoijfjceeblaaDoorW.PrintWords Go.Proofs.YtkdoijfjceeblaaDoorW.PrintLast Go.Proofs.YtkdoijfjceeblaaDoorW.PrintMore
open Go.Proofs.YtkdoijfjceeblaaDoor.LebGets (G)
open Go.Proofs.YtkdoijfjceeblaaDoor.ENames (Tabs tabs_below nget nmay)
open Go.Proofs.YtkdoijfjceeblaaDoor.EInstr (GRes pGet get_b ret_int wrap_bt)
set_option linter.unusedVariables false
set_option linter.unusedSimpArgs false
theorem info3 : (Tryd.prog.info? 3).map (fun i => (i.zero, i.size, i.bytes)) = some (some (.int .i64 0), 1, 8) := by kernel_rfl
theorem info51 : (Tryd.prog.info? 51).map (fun i => (i.zero, i.size, i.bytes)) = some (some (.agg #[.slice none 0 0, .slice none 0 0]), 2, 48) := by kernel_rfl
theorem info92 : (Tryd.prog.info? 92).map (fun i => (i.zero, i.size, i.bytes)) = some (some (.agg #[.string ⟨#[]⟩, .string ⟨#[]⟩, .int .i64 0, .int .i64 0, .bool false, .int .i64 0, .int .i64 0]), 7, 72) := by kernel_rfl
theorem info54 : (Tryd.prog.info? 54).map (fun i => (i.zero, i.size, i.bytes)) = some (some (.agg #[.int .i64 0, .int .i64 0]), 2, 16) := by kernel_rfl
theorem info72 : (Tryd.prog.info? 72).map (fun i => (i.zero, i.size, i.bytes)) = some (some (.agg #[.int .i64 0, .bool false, .slice none 0 0]), 3, 40) := by kernel_rfl
theorem info75 : (Tryd.prog.info? 75).map (fun i => (i.zero, i.size, i.bytes)) = some (some (.agg #[.string ⟨#[]⟩, .int .i64 0, .int .i64 0]), 3, 32) := by kernel_rfl
theorem info77 : (Tryd.prog.info? 77).map (fun i => (i.zero, i.size, i.bytes)) = some (some (.agg #[.slice none 0 0, .slice none 0 0]), 2, 48) := by kernel_rfl
theorem info57 : (Tryd.prog.info? 57).map (fun i => (i.zero, i.size, i.bytes)) = some (some (.agg #[.slice none 0 0, .slice none 0 0]), 2, 48) := by kernel_rfl
theorem info80 : (Tryd.prog.info? 80).map (fun i => (i.zero, i.size, i.bytes)) = some (some (.agg #[.slice none 0 0, .string ⟨#[]⟩]), 2, 40) := by kernel_rfl
def preP {α : Type} (xs : List α) (r : PR (List α)) : PR (List α) := match r with
 | .ok (ys, a) => .ok (xs ++ ys, a)
 | .error c => .error c
theorem preP_nil {α : Type} (r : PR (List α)) : preP [] r = r := by
 unfold preP
 split <;> rfl
theorem preP_step {α : Type} {p : Int → PR α} (xs : List α) {x : α} {j : Nat} {a1 a2 : Int} (h : p a1 = .ok (x, a2)) : preP xs (dRep p (j + 1) a1) = preP (xs ++ [x]) (dRep p j a2) := by
 rw [dRep, bnd_ok h]
 cases dRep p j a2 with
 | error c => rfl
 | ok q => simp [preP, bnd]
theorem preP_er {α : Type} {p : Int → PR α} (xs : List α) {c : Int} {j : Nat} {a1 : Int} (h : p a1 = .error c) : preP xs (dRep p (j + 1) a1) = .error c := by
 rw [dRep, bnd_er h]
 rfl
theorem preP_end {α : Type} {p : Int → PR α} (xs : List α) (a1 : Int) : preP xs (dRep p 0 a1) = .ok (xs, a1) := by
 rw [dRep]
 simp [preP]
def RelL {α : Type} (d : Kd α) (t g : Nat) (s : ByteArray) (W : World) (p : Int → PR α) (n : Nat) (a0 : Int) (v8 v16 : Value) (wr : World) : Prop :=
 ∃ (k : Nat) (xs : List α) (a1 : Int) (v : Value), xs.length + k = n ∧ v = v8 ∧ v16 = .int .i64 xs.length ∧ d.R t wr 0 (fun k => W.heap.size ≤ k) v xs ∧ RdD g s a1 wr ∧ Fr W wr (fun k => k = g) ∧ preP xs (dRep p k a1) = dRep p n a0
theorem rd_grown {g : Nat} {s : ByteArray} {a : Int} {w w1 : World} {row : Option Nat} (h : RdD g s a w) (hg : w.grownBy w1 row) (hr : ∀ k, row = some k → g < k) : RdD g s a w1 := by
 have hf : Fr w w1 (fun k => g < k) := Fr.grown hg hr
 exact ⟨hf.block h.blk (Nat.lt_irrefl g), h.lo, h.hi, h.sz, h.two, tabs_fr h.tab hf (Nat.not_lt_zero g) (fun e => by have : g < 1 := e; have := h.two; omega)⟩
set_option maxHeartbeats 4000000 in
set_option maxRecDepth 100000 in
theorem list_value_c {g : Nat} {s : ByteArray} {a : Int} {W : World} (most : Int) (hm : most ≤ 1024) (p : Int → PR Int) (hone : ∀ a W, RdD g s a W → Calls Tryd.prog 60 #[.pointer (some ⟨g, 0, none⟩)] W (Ret vI g s W (p a))) (h : RdD g s a W) :
  Calls Tryd.prog 40 #[.pointer (some ⟨g, 0, none⟩), .int .i64 most, .func (.func 60) #[.pointer (some ⟨g, 0, none⟩)] #[]] W (Ret (vL (Kd.int .i64) 3) g s W (dList s most p a)) := by
 have R0 := am h
 have HONE := am hone
 have LG := am (blk_lt h.blk)
 clear h hone
 go_enter Tryd.func40, Tryd.ntmps40
 go_wp2_with (first
  | (go_at_call 41; (with_reducible refine (number_c R0.out).mono ?_); intro e w1 hh; rcases ret_cases hh with ⟨c, hc, rfl, hf⟩ | ⟨n, a0, v, hx, rfl, hv, hr, hf⟩; (exact ⟨rfl, ret_er (by rw [dList, bnd_er hc]) rfl hf⟩); (have hv : v = .int .i64 n := hv); subst hv; have R1 := am hr; have F1 := am hf; have HN0 := am hx; clear hh hr hf hx R0)
  | (go_at_call 23; (with_reducible refine (need_c _ _ _).mono ?_); rintro e w' ⟨rfl, (⟨hb, rfl⟩ | ⟨hb, rfl⟩)⟩; (exact ⟨rfl, ret_er (by rw [dList, bnd_ok HN0.out, if_neg (of_decide_eq_false hb)]) rfl F1.out⟩); have HM0 := am (of_decide_eq_true hb); clear hb))
 obtain ⟨q, rfl⟩ : ∃ q : Nat, n = q := ⟨n.toNat, by have := dNum_ok HN0.out; omega⟩
 have HN := HN0
 have HM := HM0
 have hq : q ≤ 1024 := by have := HM.out; omega
 clear HN0 HM0
 go_loopw [8, 16] (fun v8 v16 wr => RelL (Kd.int .i64) 3 g s W p q a0 v8 v16 wr) (fun _ v16 _ => q - (intOf v16).toNat)
 case atStart => exact ⟨q, [], a0, _, by simp, rfl, rfl, Kd.R_nil _ _ _ _ _, R1.out, F1.out, preP_nil _⟩
 case round =>
  obtain ⟨k, xs, a1, v8, hk, rfl, rfl, hO, hR, hF, hE⟩ := hrel
  have HO := am hO
  have HR := am hR
  have HF := am hF
  have HE := am hE
  have HK := am hk
  clear hO hR hF hE
  by_cases hlt : xs.length < q
  ·have dl : decide (xs.length < q) = true := decide_eq_true hlt
   have dl2 : decide ((xs.length : Int) < (q : Int)) = true := decide_eq_true (by omega)
   obtain ⟨j, rfl⟩ : ∃ j, k = j + 1 := ⟨k - 1, by omega⟩
   have w2 : wrap64 ((xs.length : Int) + 1) = (xs.length : Int) + 1 := by unfold wrap64; omega
   have LEN := am (show (xs.length + 1) * 8 ≤ 140737488355328 by omega)
   go_wp2_with (first
    | (go_at_call 60; (with_reducible refine (HONE.out a1 _ HR.out).mono ?_); intro e w1 hh; rcases ret_cases hh with ⟨c, hc, rfl, hf⟩ | ⟨x, a2, v, hx, rfl, hv, hr, hf⟩; (exact ⟨rfl, ret_er (by rw [dList, bnd_ok HN.out, if_pos HM.out, Int.toNat_natCast, ← HE.out, preP_er xs hc]) rfl (HF.out.then_ hf (fun k hk => .inl hk))⟩); (have hv : v = .int .i64 x := hv); subst hv; have R4 := am hr; have O4 := am (Kd.R_step (Kd.R_bound (Kd.R_types HO.out HR.out.blk (by decide))) (fun k hk hlt => hf.k.2 k hlt hk.1.2)); have F4 := am (HF.out.then_ hf (fun k hk => .inl hk)); have W3 := am HF.out.size; have HX := am hx; clear hh hr hf hx HO HR HF)
    | ((with_reducible refine gate_builtin (b := .append) (xs := #[.tmp 18, .tmp 21]) rfl ?_); at_builtin; refine Kd.R_append (Kd.int .i64) (w0 := W) 0 rfl (.tmp 18) (.tmp 21) 25 3 (.int .i64 0) 8 rfl Tryd.underlying25 info3 rfl (by decide) (by decide) v8 xs x [.int .i64 x] (fun k => W.heap.size ≤ k) (fun _ => False) rfl rfl rfl (fun _ hk => hk.elim) (fun k hk => Nat.le_trans F4.out.size hk) (Kd.R_mono O4.out (fun _ hk => hk.1.1)) F4.out.b (Nat.zero_le _) LEN.out ?_; intro v9 w5 ho hb hg hat; have R5 := am (rd_grown R4.out hg (fun k e => by have := (O4.out.1 k e).1.1; have := LG.out; omega)); have F5 := am (F4.out.then_ (Fr.grown hg (S := fun k => W.heap.size ≤ k) (fun k hk => (O4.out.1 k hk).1.1)) (fun k hk => .inr hk)); have O5 := am ho; clear ho hb hg hat O4 R4 F4))
   exact ⟨⟨j, xs ++ [x], a2, _, by have := HK.out; simp; omega, rfl, by simp, O5.out, R5.out, F5.out, (preP_step xs HX.out).symm.trans HE.out⟩, by simp [intOf]; omega⟩
  ·have dl : decide (xs.length < q) = false := decide_eq_false hlt
   have dl2 : decide ((xs.length : Int) < (q : Int)) = false := decide_eq_false (by omega)
   obtain rfl : k = 0 := by omega
   go_wp2
   go_ret
   exact ret_ok (x := xs) (by rw [dList, bnd_ok HN.out, if_pos HM.out, Int.toNat_natCast, ← HE.out, preP_end]) rfl HO.out HR.out HF.out
set_option maxHeartbeats 4000000 in
set_option maxRecDepth 100000 in
theorem list_number_c {g : Nat} {s : ByteArray} {a : Int} {W : World} (most : Int) (hm : most ≤ 1024) (p : Int → PR Int) (hone : ∀ a W, RdD g s a W → Calls Tryd.prog 41 #[.pointer (some ⟨g, 0, none⟩)] W (Ret vI g s W (p a))) (h : RdD g s a W) :
  Calls Tryd.prog 40 #[.pointer (some ⟨g, 0, none⟩), .int .i64 most, .func (.func 41) #[.pointer (some ⟨g, 0, none⟩)] #[]] W (Ret (vL (Kd.int .i64) 3) g s W (dList s most p a)) := by
 have R0 := am h
 have HONE := am hone
 have LG := am (blk_lt h.blk)
 clear h hone
 go_enter Tryd.func40, Tryd.ntmps40
 go_wp2_with (first
  | (go_at_call 41; (with_reducible refine (number_c R0.out).mono ?_); intro e w1 hh; rcases ret_cases hh with ⟨c, hc, rfl, hf⟩ | ⟨n, a0, v, hx, rfl, hv, hr, hf⟩; (exact ⟨rfl, ret_er (by rw [dList, bnd_er hc]) rfl hf⟩); (have hv : v = .int .i64 n := hv); subst hv; have R1 := am hr; have F1 := am hf; have HN0 := am hx; clear hh hr hf hx R0)
  | (go_at_call 23; (with_reducible refine (need_c _ _ _).mono ?_); rintro e w' ⟨rfl, (⟨hb, rfl⟩ | ⟨hb, rfl⟩)⟩; (exact ⟨rfl, ret_er (by rw [dList, bnd_ok HN0.out, if_neg (of_decide_eq_false hb)]) rfl F1.out⟩); have HM0 := am (of_decide_eq_true hb); clear hb))
 obtain ⟨q, rfl⟩ : ∃ q : Nat, n = q := ⟨n.toNat, by have := dNum_ok HN0.out; omega⟩
 have HN := HN0
 have HM := HM0
 have hq : q ≤ 1024 := by have := HM.out; omega
 clear HN0 HM0
 go_loopw [8, 16] (fun v8 v16 wr => RelL (Kd.int .i64) 3 g s W p q a0 v8 v16 wr) (fun _ v16 _ => q - (intOf v16).toNat)
 case atStart => exact ⟨q, [], a0, _, by simp, rfl, rfl, Kd.R_nil _ _ _ _ _, R1.out, F1.out, preP_nil _⟩
 case round =>
  obtain ⟨k, xs, a1, v8, hk, rfl, rfl, hO, hR, hF, hE⟩ := hrel
  have HO := am hO
  have HR := am hR
  have HF := am hF
  have HE := am hE
  have HK := am hk
  clear hO hR hF hE
  by_cases hlt : xs.length < q
  ·have dl : decide (xs.length < q) = true := decide_eq_true hlt
   have dl2 : decide ((xs.length : Int) < (q : Int)) = true := decide_eq_true (by omega)
   obtain ⟨j, rfl⟩ : ∃ j, k = j + 1 := ⟨k - 1, by omega⟩
   have w2 : wrap64 ((xs.length : Int) + 1) = (xs.length : Int) + 1 := by unfold wrap64; omega
   have LEN := am (show (xs.length + 1) * 8 ≤ 140737488355328 by omega)
   go_wp2_with (first
    | (go_at_call 41; (with_reducible refine (HONE.out a1 _ HR.out).mono ?_); intro e w1 hh; rcases ret_cases hh with ⟨c, hc, rfl, hf⟩ | ⟨x, a2, v, hx, rfl, hv, hr, hf⟩; (exact ⟨rfl, ret_er (by rw [dList, bnd_ok HN.out, if_pos HM.out, Int.toNat_natCast, ← HE.out, preP_er xs hc]) rfl (HF.out.then_ hf (fun k hk => .inl hk))⟩); (have hv : v = .int .i64 x := hv); subst hv; have R4 := am hr; have O4 := am (Kd.R_step (Kd.R_bound (Kd.R_types HO.out HR.out.blk (by decide))) (fun k hk hlt => hf.k.2 k hlt hk.1.2)); have F4 := am (HF.out.then_ hf (fun k hk => .inl hk)); have W3 := am HF.out.size; have HX := am hx; clear hh hr hf hx HO HR HF)
    | ((with_reducible refine gate_builtin (b := .append) (xs := #[.tmp 18, .tmp 21]) rfl ?_); at_builtin; refine Kd.R_append (Kd.int .i64) (w0 := W) 0 rfl (.tmp 18) (.tmp 21) 25 3 (.int .i64 0) 8 rfl Tryd.underlying25 info3 rfl (by decide) (by decide) v8 xs x [.int .i64 x] (fun k => W.heap.size ≤ k) (fun _ => False) rfl rfl rfl (fun _ hk => hk.elim) (fun k hk => Nat.le_trans F4.out.size hk) (Kd.R_mono O4.out (fun _ hk => hk.1.1)) F4.out.b (Nat.zero_le _) LEN.out ?_; intro v9 w5 ho hb hg hat; have R5 := am (rd_grown R4.out hg (fun k e => by have := (O4.out.1 k e).1.1; have := LG.out; omega)); have F5 := am (F4.out.then_ (Fr.grown hg (S := fun k => W.heap.size ≤ k) (fun k hk => (O4.out.1 k hk).1.1)) (fun k hk => .inr hk)); have O5 := am ho; clear ho hb hg hat O4 R4 F4))
   exact ⟨⟨j, xs ++ [x], a2, _, by have := HK.out; simp; omega, rfl, by simp, O5.out, R5.out, F5.out, (preP_step xs HX.out).symm.trans HE.out⟩, by simp [intOf]; omega⟩
  ·have dl : decide (xs.length < q) = false := decide_eq_false hlt
   have dl2 : decide ((xs.length : Int) < (q : Int)) = false := decide_eq_false (by omega)
   obtain rfl : k = 0 := by omega
   go_wp2
   go_ret
   exact ret_ok (x := xs) (by rw [dList, bnd_ok HN.out, if_pos HM.out, Int.toNat_natCast, ← HE.out, preP_end]) rfl HO.out HR.out HF.out
set_option maxHeartbeats 4000000 in
set_option maxRecDepth 100000 in
theorem list_type_c {g : Nat} {s : ByteArray} {a : Int} {W : World} (most : Int) (hm : most ≤ 1024) (p : Int → PR S51) (hone : ∀ a W, RdD g s a W → Calls Tryd.prog 37 #[.pointer (some ⟨g, 0, none⟩)] W (Ret (vM k51) g s W (p a))) (h : RdD g s a W) :
  Calls Tryd.prog 36 #[.pointer (some ⟨g, 0, none⟩), .int .i64 most, .func (.func 37) #[.pointer (some ⟨g, 0, none⟩)] #[]] W (Ret (vL k51 51) g s W (dList s most p a)) := by
 have R0 := am h
 have HONE := am hone
 have LG := am (blk_lt h.blk)
 clear h hone
 go_enter Tryd.func36, Tryd.ntmps36
 go_wp2_with (first
  | (go_at_call 41; (with_reducible refine (number_c R0.out).mono ?_); intro e w1 hh; rcases ret_cases hh with ⟨c, hc, rfl, hf⟩ | ⟨n, a0, v, hx, rfl, hv, hr, hf⟩; (exact ⟨rfl, ret_er (by rw [dList, bnd_er hc]) rfl hf⟩); (have hv : v = .int .i64 n := hv); subst hv; have R1 := am hr; have F1 := am hf; have HN0 := am hx; clear hh hr hf hx R0)
  | (go_at_call 23; (with_reducible refine (need_c _ _ _).mono ?_); rintro e w' ⟨rfl, (⟨hb, rfl⟩ | ⟨hb, rfl⟩)⟩; (exact ⟨rfl, ret_er (by rw [dList, bnd_ok HN0.out, if_neg (of_decide_eq_false hb)]) rfl F1.out⟩); have HM0 := am (of_decide_eq_true hb); clear hb))
 obtain ⟨q, rfl⟩ : ∃ q : Nat, n = q := ⟨n.toNat, by have := dNum_ok HN0.out; omega⟩
 have HN := HN0
 have HM := HM0
 have hq : q ≤ 1024 := by have := HM.out; omega
 clear HN0 HM0
 go_loopw [8, 16] (fun v8 v16 wr => RelL k51 51 g s W p q a0 v8 v16 wr) (fun _ v16 _ => q - (intOf v16).toNat)
 case atStart => exact ⟨q, [], a0, _, by simp, rfl, rfl, Kd.R_nil _ _ _ _ _, R1.out, F1.out, preP_nil _⟩
 case round =>
  obtain ⟨k, xs, a1, v8, hk, rfl, rfl, hO, hR, hF, hE⟩ := hrel
  have HO := am hO
  have HR := am hR
  have HF := am hF
  have HE := am hE
  have HK := am hk
  clear hO hR hF hE
  by_cases hlt : xs.length < q
  ·have dl : decide (xs.length < q) = true := decide_eq_true hlt
   have dl2 : decide ((xs.length : Int) < (q : Int)) = true := decide_eq_true (by omega)
   obtain ⟨j, rfl⟩ : ∃ j, k = j + 1 := ⟨k - 1, by omega⟩
   have w2 : wrap64 ((xs.length : Int) + 1) = (xs.length : Int) + 1 := by unfold wrap64; omega
   have LEN := am (show (xs.length + 1) * 48 ≤ 140737488355328 by omega)
   go_wp2_with (first
    | (go_at_call 37; (with_reducible refine (HONE.out a1 _ HR.out).mono ?_); intro e w1 hh; rcases ret_cases hh with ⟨c, hc, rfl, hf⟩ | ⟨x, a2, v, hx, rfl, hv, hr, hf⟩; (exact ⟨rfl, ret_er (by rw [dList, bnd_ok HN.out, if_pos HM.out, Int.toNat_natCast, ← HE.out, preP_er xs hc]) rfl (HF.out.then_ hf (fun k hk => .inl hk))⟩); obtain ⟨cs, rfl, hM⟩ := hv; obtain ⟨v0, v1, rfl, _, _⟩ := k51_openM hM; have M4 := am hM; clear hM; have R4 := am hr; have O4 := am (Kd.R_step (Kd.R_bound (Kd.R_types HO.out HR.out.blk (by decide))) (fun k hk hlt => hf.k.2 k hlt hk.1.2)); have F4 := am (HF.out.then_ hf (fun k hk => .inl hk)); have W3 := am HF.out.size; have HX := am hx; clear hh hr hf hx HO HR HF)
    | ((with_reducible refine gate_builtin (b := .append) (xs := #[.tmp 18, .tmp 21]) rfl ?_); at_builtin; refine Kd.R_append k51 (w0 := W) 0 rfl (.tmp 18) (.tmp 21) 23 51 (.agg #[.slice none 0 0, .slice none 0 0]) 48 rfl Tryd.underlying23 info51 rfl (by decide) (by decide) v8 xs x [v0, v1] (fun k => W.heap.size ≤ k) (fun k => wr.heap.size ≤ k) rfl rfl M4.out ?cO (fun k hk => Nat.le_trans F4.out.size hk) (Kd.R_mono O4.out (fun _ hk => hk.1.1)) F4.out.b (Nat.zero_le _) LEN.out ?_; (case cO => exact fun k hk => ⟨Nat.le_trans W3.out hk, fun e => by have := (O4.out.1 k e.symm).2.2.1; omega⟩); intro v9 w5 ho hb hg hat; have R5 := am (rd_grown R4.out hg (fun k e => by have := (O4.out.1 k e).1.1; have := LG.out; omega)); have F5 := am (F4.out.then_ (Fr.grown hg (S := fun k => W.heap.size ≤ k) (fun k hk => (O4.out.1 k hk).1.1)) (fun k hk => .inr hk)); have O5 := am ho; clear ho hb hg hat O4 R4 F4 M4))
   exact ⟨⟨j, xs ++ [x], a2, _, by have := HK.out; simp; omega, rfl, by simp, O5.out, R5.out, F5.out, (preP_step xs HX.out).symm.trans HE.out⟩, by simp [intOf]; omega⟩
  ·have dl : decide (xs.length < q) = false := decide_eq_false hlt
   have dl2 : decide ((xs.length : Int) < (q : Int)) = false := decide_eq_false (by omega)
   obtain rfl : k = 0 := by omega
   go_wp2
   go_ret
   exact ret_ok (x := xs) (by rw [dList, bnd_ok HN.out, if_pos HM.out, Int.toNat_natCast, ← HE.out, preP_end]) rfl HO.out HR.out HF.out
set_option maxHeartbeats 4000000 in
set_option maxRecDepth 100000 in
theorem list_import_c {g : Nat} {s : ByteArray} {a : Int} {W : World} (most : Int) (hm : most ≤ 1024) (p : Int → PR S92) (hone : ∀ a W, RdD g s a W → Calls Tryd.prog 39 #[.pointer (some ⟨g, 0, none⟩)] W (Ret (vM k92) g s W (p a))) (h : RdD g s a W) :
  Calls Tryd.prog 38 #[.pointer (some ⟨g, 0, none⟩), .int .i64 most, .func (.func 39) #[.pointer (some ⟨g, 0, none⟩)] #[]] W (Ret (vL k92 92) g s W (dList s most p a)) := by
 have R0 := am h
 have HONE := am hone
 have LG := am (blk_lt h.blk)
 clear h hone
 go_enter Tryd.func38, Tryd.ntmps38
 go_wp2_with (first
  | (go_at_call 41; (with_reducible refine (number_c R0.out).mono ?_); intro e w1 hh; rcases ret_cases hh with ⟨c, hc, rfl, hf⟩ | ⟨n, a0, v, hx, rfl, hv, hr, hf⟩; (exact ⟨rfl, ret_er (by rw [dList, bnd_er hc]) rfl hf⟩); (have hv : v = .int .i64 n := hv); subst hv; have R1 := am hr; have F1 := am hf; have HN0 := am hx; clear hh hr hf hx R0)
  | (go_at_call 23; (with_reducible refine (need_c _ _ _).mono ?_); rintro e w' ⟨rfl, (⟨hb, rfl⟩ | ⟨hb, rfl⟩)⟩; (exact ⟨rfl, ret_er (by rw [dList, bnd_ok HN0.out, if_neg (of_decide_eq_false hb)]) rfl F1.out⟩); have HM0 := am (of_decide_eq_true hb); clear hb))
 obtain ⟨q, rfl⟩ : ∃ q : Nat, n = q := ⟨n.toNat, by have := dNum_ok HN0.out; omega⟩
 have HN := HN0
 have HM := HM0
 have hq : q ≤ 1024 := by have := HM.out; omega
 clear HN0 HM0
 go_loopw [8, 16] (fun v8 v16 wr => RelL k92 92 g s W p q a0 v8 v16 wr) (fun _ v16 _ => q - (intOf v16).toNat)
 case atStart => exact ⟨q, [], a0, _, by simp, rfl, rfl, Kd.R_nil _ _ _ _ _, R1.out, F1.out, preP_nil _⟩
 case round =>
  obtain ⟨k, xs, a1, v8, hk, rfl, rfl, hO, hR, hF, hE⟩ := hrel
  have HO := am hO
  have HR := am hR
  have HF := am hF
  have HE := am hE
  have HK := am hk
  clear hO hR hF hE
  by_cases hlt : xs.length < q
  ·have dl : decide (xs.length < q) = true := decide_eq_true hlt
   have dl2 : decide ((xs.length : Int) < (q : Int)) = true := decide_eq_true (by omega)
   obtain ⟨j, rfl⟩ : ∃ j, k = j + 1 := ⟨k - 1, by omega⟩
   have w2 : wrap64 ((xs.length : Int) + 1) = (xs.length : Int) + 1 := by unfold wrap64; omega
   have LEN := am (show (xs.length + 1) * 72 ≤ 140737488355328 by omega)
   go_wp2_with (first
    | (go_at_call 39; (with_reducible refine (HONE.out a1 _ HR.out).mono ?_); intro e w1 hh; rcases ret_cases hh with ⟨c, hc, rfl, hf⟩ | ⟨x, a2, v, hx, rfl, hv, hr, hf⟩; (exact ⟨rfl, ret_er (by rw [dList, bnd_ok HN.out, if_pos HM.out, Int.toNat_natCast, ← HE.out, preP_er xs hc]) rfl (HF.out.then_ hf (fun k hk => .inl hk))⟩); obtain ⟨cs, rfl, hM⟩ := hv; obtain rfl := k92_openM hM; have M4 := am hM; clear hM; have R4 := am hr; have O4 := am (Kd.R_step (Kd.R_bound (Kd.R_types HO.out HR.out.blk (by decide))) (fun k hk hlt => hf.k.2 k hlt hk.1.2)); have F4 := am (HF.out.then_ hf (fun k hk => .inl hk)); have W3 := am HF.out.size; have HX := am hx; clear hh hr hf hx HO HR HF)
    | ((with_reducible refine gate_builtin (b := .append) (xs := #[.tmp 18, .tmp 21]) rfl ?_); at_builtin; refine Kd.R_append k92 (w0 := W) 0 rfl (.tmp 18) (.tmp 21) 24 92 (.agg #[.string ⟨#[]⟩, .string ⟨#[]⟩, .int .i64 0, .int .i64 0, .bool false, .int .i64 0, .int .i64 0]) 72 rfl Tryd.underlying24 info92 rfl (by decide) (by decide) v8 xs x [.string x.f0, .string x.f1, .int .i64 x.f2, .int .i64 x.f3, .bool x.f4, .int .i64 x.f5.f0, .int .i64 x.f5.f1] (fun k => W.heap.size ≤ k) (fun k => wr.heap.size ≤ k) rfl rfl M4.out ?cO (fun k hk => Nat.le_trans F4.out.size hk) (Kd.R_mono O4.out (fun _ hk => hk.1.1)) F4.out.b (Nat.zero_le _) LEN.out ?_; (case cO => exact fun k hk => ⟨Nat.le_trans W3.out hk, fun e => by have := (O4.out.1 k e.symm).2.2.1; omega⟩); intro v9 w5 ho hb hg hat; have R5 := am (rd_grown R4.out hg (fun k e => by have := (O4.out.1 k e).1.1; have := LG.out; omega)); have F5 := am (F4.out.then_ (Fr.grown hg (S := fun k => W.heap.size ≤ k) (fun k hk => (O4.out.1 k hk).1.1)) (fun k hk => .inr hk)); have O5 := am ho; clear ho hb hg hat O4 R4 F4 M4))
   exact ⟨⟨j, xs ++ [x], a2, _, by have := HK.out; simp; omega, rfl, by simp, O5.out, R5.out, F5.out, (preP_step xs HX.out).symm.trans HE.out⟩, by simp [intOf]; omega⟩
  ·have dl : decide (xs.length < q) = false := decide_eq_false hlt
   have dl2 : decide ((xs.length : Int) < (q : Int)) = false := decide_eq_false (by omega)
   obtain rfl : k = 0 := by omega
   go_wp2
   go_ret
   exact ret_ok (x := xs) (by rw [dList, bnd_ok HN.out, if_pos HM.out, Int.toNat_natCast, ← HE.out, preP_end]) rfl HO.out HR.out HF.out
set_option maxHeartbeats 4000000 in
set_option maxRecDepth 100000 in
theorem list_table_c {g : Nat} {s : ByteArray} {a : Int} {W : World} (most : Int) (hm : most ≤ 1024) (p : Int → PR S54) (hone : ∀ a W, RdD g s a W → Calls Tryd.prog 43 #[.pointer (some ⟨g, 0, none⟩)] W (Ret (vM k54) g s W (p a))) (h : RdD g s a W) :
  Calls Tryd.prog 42 #[.pointer (some ⟨g, 0, none⟩), .int .i64 most, .func (.func 43) #[.pointer (some ⟨g, 0, none⟩)] #[]] W (Ret (vL k54 54) g s W (dList s most p a)) := by
 have R0 := am h
 have HONE := am hone
 have LG := am (blk_lt h.blk)
 clear h hone
 go_enter Tryd.func42, Tryd.ntmps42
 go_wp2_with (first
  | (go_at_call 41; (with_reducible refine (number_c R0.out).mono ?_); intro e w1 hh; rcases ret_cases hh with ⟨c, hc, rfl, hf⟩ | ⟨n, a0, v, hx, rfl, hv, hr, hf⟩; (exact ⟨rfl, ret_er (by rw [dList, bnd_er hc]) rfl hf⟩); (have hv : v = .int .i64 n := hv); subst hv; have R1 := am hr; have F1 := am hf; have HN0 := am hx; clear hh hr hf hx R0)
  | (go_at_call 23; (with_reducible refine (need_c _ _ _).mono ?_); rintro e w' ⟨rfl, (⟨hb, rfl⟩ | ⟨hb, rfl⟩)⟩; (exact ⟨rfl, ret_er (by rw [dList, bnd_ok HN0.out, if_neg (of_decide_eq_false hb)]) rfl F1.out⟩); have HM0 := am (of_decide_eq_true hb); clear hb))
 obtain ⟨q, rfl⟩ : ∃ q : Nat, n = q := ⟨n.toNat, by have := dNum_ok HN0.out; omega⟩
 have HN := HN0
 have HM := HM0
 have hq : q ≤ 1024 := by have := HM.out; omega
 clear HN0 HM0
 go_loopw [8, 16] (fun v8 v16 wr => RelL k54 54 g s W p q a0 v8 v16 wr) (fun _ v16 _ => q - (intOf v16).toNat)
 case atStart => exact ⟨q, [], a0, _, by simp, rfl, rfl, Kd.R_nil _ _ _ _ _, R1.out, F1.out, preP_nil _⟩
 case round =>
  obtain ⟨k, xs, a1, v8, hk, rfl, rfl, hO, hR, hF, hE⟩ := hrel
  have HO := am hO
  have HR := am hR
  have HF := am hF
  have HE := am hE
  have HK := am hk
  clear hO hR hF hE
  by_cases hlt : xs.length < q
  ·have dl : decide (xs.length < q) = true := decide_eq_true hlt
   have dl2 : decide ((xs.length : Int) < (q : Int)) = true := decide_eq_true (by omega)
   obtain ⟨j, rfl⟩ : ∃ j, k = j + 1 := ⟨k - 1, by omega⟩
   have w2 : wrap64 ((xs.length : Int) + 1) = (xs.length : Int) + 1 := by unfold wrap64; omega
   have LEN := am (show (xs.length + 1) * 16 ≤ 140737488355328 by omega)
   go_wp2_with (first
    | (go_at_call 43; (with_reducible refine (HONE.out a1 _ HR.out).mono ?_); intro e w1 hh; rcases ret_cases hh with ⟨c, hc, rfl, hf⟩ | ⟨x, a2, v, hx, rfl, hv, hr, hf⟩; (exact ⟨rfl, ret_er (by rw [dList, bnd_ok HN.out, if_pos HM.out, Int.toNat_natCast, ← HE.out, preP_er xs hc]) rfl (HF.out.then_ hf (fun k hk => .inl hk))⟩); obtain ⟨cs, rfl, hM⟩ := hv; obtain rfl := k54_openM hM; have M4 := am hM; clear hM; have R4 := am hr; have O4 := am (Kd.R_step (Kd.R_bound (Kd.R_types HO.out HR.out.blk (by decide))) (fun k hk hlt => hf.k.2 k hlt hk.1.2)); have F4 := am (HF.out.then_ hf (fun k hk => .inl hk)); have W3 := am HF.out.size; have HX := am hx; clear hh hr hf hx HO HR HF)
    | ((with_reducible refine gate_builtin (b := .append) (xs := #[.tmp 18, .tmp 21]) rfl ?_); at_builtin; refine Kd.R_append k54 (w0 := W) 0 rfl (.tmp 18) (.tmp 21) 26 54 (.agg #[.int .i64 0, .int .i64 0]) 16 rfl Tryd.underlying26 info54 rfl (by decide) (by decide) v8 xs x [.int .i64 x.f0, .int .i64 x.f1] (fun k => W.heap.size ≤ k) (fun k => wr.heap.size ≤ k) rfl rfl M4.out ?cO (fun k hk => Nat.le_trans F4.out.size hk) (Kd.R_mono O4.out (fun _ hk => hk.1.1)) F4.out.b (Nat.zero_le _) LEN.out ?_; (case cO => exact fun k hk => ⟨Nat.le_trans W3.out hk, fun e => by have := (O4.out.1 k e.symm).2.2.1; omega⟩); intro v9 w5 ho hb hg hat; have R5 := am (rd_grown R4.out hg (fun k e => by have := (O4.out.1 k e).1.1; have := LG.out; omega)); have F5 := am (F4.out.then_ (Fr.grown hg (S := fun k => W.heap.size ≤ k) (fun k hk => (O4.out.1 k hk).1.1)) (fun k hk => .inr hk)); have O5 := am ho; clear ho hb hg hat O4 R4 F4 M4))
   exact ⟨⟨j, xs ++ [x], a2, _, by have := HK.out; simp; omega, rfl, by simp, O5.out, R5.out, F5.out, (preP_step xs HX.out).symm.trans HE.out⟩, by simp [intOf]; omega⟩
  ·have dl : decide (xs.length < q) = false := decide_eq_false hlt
   have dl2 : decide ((xs.length : Int) < (q : Int)) = false := decide_eq_false (by omega)
   obtain rfl : k = 0 := by omega
   go_wp2
   go_ret
   exact ret_ok (x := xs) (by rw [dList, bnd_ok HN.out, if_pos HM.out, Int.toNat_natCast, ← HE.out, preP_end]) rfl HO.out HR.out HF.out
set_option maxHeartbeats 4000000 in
set_option maxRecDepth 100000 in
theorem list_limits_c {g : Nat} {s : ByteArray} {a : Int} {W : World} (most : Int) (hm : most ≤ 1024) (p : Int → PR S54) (hone : ∀ a W, RdD g s a W → Calls Tryd.prog 44 #[.pointer (some ⟨g, 0, none⟩)] W (Ret (vM k54) g s W (p a))) (h : RdD g s a W) :
  Calls Tryd.prog 42 #[.pointer (some ⟨g, 0, none⟩), .int .i64 most, .func (.func 44) #[.pointer (some ⟨g, 0, none⟩)] #[]] W (Ret (vL k54 54) g s W (dList s most p a)) := by
 have R0 := am h
 have HONE := am hone
 have LG := am (blk_lt h.blk)
 clear h hone
 go_enter Tryd.func42, Tryd.ntmps42
 go_wp2_with (first
  | (go_at_call 41; (with_reducible refine (number_c R0.out).mono ?_); intro e w1 hh; rcases ret_cases hh with ⟨c, hc, rfl, hf⟩ | ⟨n, a0, v, hx, rfl, hv, hr, hf⟩; (exact ⟨rfl, ret_er (by rw [dList, bnd_er hc]) rfl hf⟩); (have hv : v = .int .i64 n := hv); subst hv; have R1 := am hr; have F1 := am hf; have HN0 := am hx; clear hh hr hf hx R0)
  | (go_at_call 23; (with_reducible refine (need_c _ _ _).mono ?_); rintro e w' ⟨rfl, (⟨hb, rfl⟩ | ⟨hb, rfl⟩)⟩; (exact ⟨rfl, ret_er (by rw [dList, bnd_ok HN0.out, if_neg (of_decide_eq_false hb)]) rfl F1.out⟩); have HM0 := am (of_decide_eq_true hb); clear hb))
 obtain ⟨q, rfl⟩ : ∃ q : Nat, n = q := ⟨n.toNat, by have := dNum_ok HN0.out; omega⟩
 have HN := HN0
 have HM := HM0
 have hq : q ≤ 1024 := by have := HM.out; omega
 clear HN0 HM0
 go_loopw [8, 16] (fun v8 v16 wr => RelL k54 54 g s W p q a0 v8 v16 wr) (fun _ v16 _ => q - (intOf v16).toNat)
 case atStart => exact ⟨q, [], a0, _, by simp, rfl, rfl, Kd.R_nil _ _ _ _ _, R1.out, F1.out, preP_nil _⟩
 case round =>
  obtain ⟨k, xs, a1, v8, hk, rfl, rfl, hO, hR, hF, hE⟩ := hrel
  have HO := am hO
  have HR := am hR
  have HF := am hF
  have HE := am hE
  have HK := am hk
  clear hO hR hF hE
  by_cases hlt : xs.length < q
  ·have dl : decide (xs.length < q) = true := decide_eq_true hlt
   have dl2 : decide ((xs.length : Int) < (q : Int)) = true := decide_eq_true (by omega)
   obtain ⟨j, rfl⟩ : ∃ j, k = j + 1 := ⟨k - 1, by omega⟩
   have w2 : wrap64 ((xs.length : Int) + 1) = (xs.length : Int) + 1 := by unfold wrap64; omega
   have LEN := am (show (xs.length + 1) * 16 ≤ 140737488355328 by omega)
   go_wp2_with (first
    | (go_at_call 44; (with_reducible refine (HONE.out a1 _ HR.out).mono ?_); intro e w1 hh; rcases ret_cases hh with ⟨c, hc, rfl, hf⟩ | ⟨x, a2, v, hx, rfl, hv, hr, hf⟩; (exact ⟨rfl, ret_er (by rw [dList, bnd_ok HN.out, if_pos HM.out, Int.toNat_natCast, ← HE.out, preP_er xs hc]) rfl (HF.out.then_ hf (fun k hk => .inl hk))⟩); obtain ⟨cs, rfl, hM⟩ := hv; obtain rfl := k54_openM hM; have M4 := am hM; clear hM; have R4 := am hr; have O4 := am (Kd.R_step (Kd.R_bound (Kd.R_types HO.out HR.out.blk (by decide))) (fun k hk hlt => hf.k.2 k hlt hk.1.2)); have F4 := am (HF.out.then_ hf (fun k hk => .inl hk)); have W3 := am HF.out.size; have HX := am hx; clear hh hr hf hx HO HR HF)
    | ((with_reducible refine gate_builtin (b := .append) (xs := #[.tmp 18, .tmp 21]) rfl ?_); at_builtin; refine Kd.R_append k54 (w0 := W) 0 rfl (.tmp 18) (.tmp 21) 26 54 (.agg #[.int .i64 0, .int .i64 0]) 16 rfl Tryd.underlying26 info54 rfl (by decide) (by decide) v8 xs x [.int .i64 x.f0, .int .i64 x.f1] (fun k => W.heap.size ≤ k) (fun k => wr.heap.size ≤ k) rfl rfl M4.out ?cO (fun k hk => Nat.le_trans F4.out.size hk) (Kd.R_mono O4.out (fun _ hk => hk.1.1)) F4.out.b (Nat.zero_le _) LEN.out ?_; (case cO => exact fun k hk => ⟨Nat.le_trans W3.out hk, fun e => by have := (O4.out.1 k e.symm).2.2.1; omega⟩); intro v9 w5 ho hb hg hat; have R5 := am (rd_grown R4.out hg (fun k e => by have := (O4.out.1 k e).1.1; have := LG.out; omega)); have F5 := am (F4.out.then_ (Fr.grown hg (S := fun k => W.heap.size ≤ k) (fun k hk => (O4.out.1 k hk).1.1)) (fun k hk => .inr hk)); have O5 := am ho; clear ho hb hg hat O4 R4 F4 M4))
   exact ⟨⟨j, xs ++ [x], a2, _, by have := HK.out; simp; omega, rfl, by simp, O5.out, R5.out, F5.out, (preP_step xs HX.out).symm.trans HE.out⟩, by simp [intOf]; omega⟩
  ·have dl : decide (xs.length < q) = false := decide_eq_false hlt
   have dl2 : decide ((xs.length : Int) < (q : Int)) = false := decide_eq_false (by omega)
   obtain rfl : k = 0 := by omega
   go_wp2
   go_ret
   exact ret_ok (x := xs) (by rw [dList, bnd_ok HN.out, if_pos HM.out, Int.toNat_natCast, ← HE.out, preP_end]) rfl HO.out HR.out HF.out
set_option maxHeartbeats 4000000 in
set_option maxRecDepth 100000 in
theorem list_global_c {g : Nat} {s : ByteArray} {a : Int} {W : World} (most : Int) (hm : most ≤ 1024) (p : Int → PR S72) (hone : ∀ a W, RdD g s a W → Calls Tryd.prog 46 #[.pointer (some ⟨g, 0, none⟩)] W (Ret (vM k72) g s W (p a))) (h : RdD g s a W) :
  Calls Tryd.prog 45 #[.pointer (some ⟨g, 0, none⟩), .int .i64 most, .func (.func 46) #[.pointer (some ⟨g, 0, none⟩)] #[]] W (Ret (vL k72 72) g s W (dList s most p a)) := by
 have R0 := am h
 have HONE := am hone
 have LG := am (blk_lt h.blk)
 clear h hone
 go_enter Tryd.func45, Tryd.ntmps45
 go_wp2_with (first
  | (go_at_call 41; (with_reducible refine (number_c R0.out).mono ?_); intro e w1 hh; rcases ret_cases hh with ⟨c, hc, rfl, hf⟩ | ⟨n, a0, v, hx, rfl, hv, hr, hf⟩; (exact ⟨rfl, ret_er (by rw [dList, bnd_er hc]) rfl hf⟩); (have hv : v = .int .i64 n := hv); subst hv; have R1 := am hr; have F1 := am hf; have HN0 := am hx; clear hh hr hf hx R0)
  | (go_at_call 23; (with_reducible refine (need_c _ _ _).mono ?_); rintro e w' ⟨rfl, (⟨hb, rfl⟩ | ⟨hb, rfl⟩)⟩; (exact ⟨rfl, ret_er (by rw [dList, bnd_ok HN0.out, if_neg (of_decide_eq_false hb)]) rfl F1.out⟩); have HM0 := am (of_decide_eq_true hb); clear hb))
 obtain ⟨q, rfl⟩ : ∃ q : Nat, n = q := ⟨n.toNat, by have := dNum_ok HN0.out; omega⟩
 have HN := HN0
 have HM := HM0
 have hq : q ≤ 1024 := by have := HM.out; omega
 clear HN0 HM0
 go_loopw [8, 16] (fun v8 v16 wr => RelL k72 72 g s W p q a0 v8 v16 wr) (fun _ v16 _ => q - (intOf v16).toNat)
 case atStart => exact ⟨q, [], a0, _, by simp, rfl, rfl, Kd.R_nil _ _ _ _ _, R1.out, F1.out, preP_nil _⟩
 case round =>
  obtain ⟨k, xs, a1, v8, hk, rfl, rfl, hO, hR, hF, hE⟩ := hrel
  have HO := am hO
  have HR := am hR
  have HF := am hF
  have HE := am hE
  have HK := am hk
  clear hO hR hF hE
  by_cases hlt : xs.length < q
  ·have dl : decide (xs.length < q) = true := decide_eq_true hlt
   have dl2 : decide ((xs.length : Int) < (q : Int)) = true := decide_eq_true (by omega)
   obtain ⟨j, rfl⟩ : ∃ j, k = j + 1 := ⟨k - 1, by omega⟩
   have w2 : wrap64 ((xs.length : Int) + 1) = (xs.length : Int) + 1 := by unfold wrap64; omega
   have LEN := am (show (xs.length + 1) * 40 ≤ 140737488355328 by omega)
   go_wp2_with (first
    | (go_at_call 46; (with_reducible refine (HONE.out a1 _ HR.out).mono ?_); intro e w1 hh; rcases ret_cases hh with ⟨c, hc, rfl, hf⟩ | ⟨x, a2, v, hx, rfl, hv, hr, hf⟩; (exact ⟨rfl, ret_er (by rw [dList, bnd_ok HN.out, if_pos HM.out, Int.toNat_natCast, ← HE.out, preP_er xs hc]) rfl (HF.out.then_ hf (fun k hk => .inl hk))⟩); obtain ⟨cs, rfl, hM⟩ := hv; obtain ⟨v2, rfl, _⟩ := k72_openM hM; have M4 := am hM; clear hM; have R4 := am hr; have O4 := am (Kd.R_step (Kd.R_bound (Kd.R_types HO.out HR.out.blk (by decide))) (fun k hk hlt => hf.k.2 k hlt hk.1.2)); have F4 := am (HF.out.then_ hf (fun k hk => .inl hk)); have W3 := am HF.out.size; have HX := am hx; clear hh hr hf hx HO HR HF)
    | ((with_reducible refine gate_builtin (b := .append) (xs := #[.tmp 18, .tmp 21]) rfl ?_); at_builtin; refine Kd.R_append k72 (w0 := W) 0 rfl (.tmp 18) (.tmp 21) 27 72 (.agg #[.int .i64 0, .bool false, .slice none 0 0]) 40 rfl Tryd.underlying27 info72 rfl (by decide) (by decide) v8 xs x [.int .i64 x.f0, .bool x.f1, v2] (fun k => W.heap.size ≤ k) (fun k => wr.heap.size ≤ k) rfl rfl M4.out ?cO (fun k hk => Nat.le_trans F4.out.size hk) (Kd.R_mono O4.out (fun _ hk => hk.1.1)) F4.out.b (Nat.zero_le _) LEN.out ?_; (case cO => exact fun k hk => ⟨Nat.le_trans W3.out hk, fun e => by have := (O4.out.1 k e.symm).2.2.1; omega⟩); intro v9 w5 ho hb hg hat; have R5 := am (rd_grown R4.out hg (fun k e => by have := (O4.out.1 k e).1.1; have := LG.out; omega)); have F5 := am (F4.out.then_ (Fr.grown hg (S := fun k => W.heap.size ≤ k) (fun k hk => (O4.out.1 k hk).1.1)) (fun k hk => .inr hk)); have O5 := am ho; clear ho hb hg hat O4 R4 F4 M4))
   exact ⟨⟨j, xs ++ [x], a2, _, by have := HK.out; simp; omega, rfl, by simp, O5.out, R5.out, F5.out, (preP_step xs HX.out).symm.trans HE.out⟩, by simp [intOf]; omega⟩
  ·have dl : decide (xs.length < q) = false := decide_eq_false hlt
   have dl2 : decide ((xs.length : Int) < (q : Int)) = false := decide_eq_false (by omega)
   obtain rfl : k = 0 := by omega
   go_wp2
   go_ret
   exact ret_ok (x := xs) (by rw [dList, bnd_ok HN.out, if_pos HM.out, Int.toNat_natCast, ← HE.out, preP_end]) rfl HO.out HR.out HF.out
set_option maxHeartbeats 4000000 in
set_option maxRecDepth 100000 in
theorem list_export_c {g : Nat} {s : ByteArray} {a : Int} {W : World} (most : Int) (hm : most ≤ 1024) (p : Int → PR S75) (hone : ∀ a W, RdD g s a W → Calls Tryd.prog 48 #[.pointer (some ⟨g, 0, none⟩)] W (Ret (vM k75) g s W (p a))) (h : RdD g s a W) :
  Calls Tryd.prog 47 #[.pointer (some ⟨g, 0, none⟩), .int .i64 most, .func (.func 48) #[.pointer (some ⟨g, 0, none⟩)] #[]] W (Ret (vL k75 75) g s W (dList s most p a)) := by
 have R0 := am h
 have HONE := am hone
 have LG := am (blk_lt h.blk)
 clear h hone
 go_enter Tryd.func47, Tryd.ntmps47
 go_wp2_with (first
  | (go_at_call 41; (with_reducible refine (number_c R0.out).mono ?_); intro e w1 hh; rcases ret_cases hh with ⟨c, hc, rfl, hf⟩ | ⟨n, a0, v, hx, rfl, hv, hr, hf⟩; (exact ⟨rfl, ret_er (by rw [dList, bnd_er hc]) rfl hf⟩); (have hv : v = .int .i64 n := hv); subst hv; have R1 := am hr; have F1 := am hf; have HN0 := am hx; clear hh hr hf hx R0)
  | (go_at_call 23; (with_reducible refine (need_c _ _ _).mono ?_); rintro e w' ⟨rfl, (⟨hb, rfl⟩ | ⟨hb, rfl⟩)⟩; (exact ⟨rfl, ret_er (by rw [dList, bnd_ok HN0.out, if_neg (of_decide_eq_false hb)]) rfl F1.out⟩); have HM0 := am (of_decide_eq_true hb); clear hb))
 obtain ⟨q, rfl⟩ : ∃ q : Nat, n = q := ⟨n.toNat, by have := dNum_ok HN0.out; omega⟩
 have HN := HN0
 have HM := HM0
 have hq : q ≤ 1024 := by have := HM.out; omega
 clear HN0 HM0
 go_loopw [8, 16] (fun v8 v16 wr => RelL k75 75 g s W p q a0 v8 v16 wr) (fun _ v16 _ => q - (intOf v16).toNat)
 case atStart => exact ⟨q, [], a0, _, by simp, rfl, rfl, Kd.R_nil _ _ _ _ _, R1.out, F1.out, preP_nil _⟩
 case round =>
  obtain ⟨k, xs, a1, v8, hk, rfl, rfl, hO, hR, hF, hE⟩ := hrel
  have HO := am hO
  have HR := am hR
  have HF := am hF
  have HE := am hE
  have HK := am hk
  clear hO hR hF hE
  by_cases hlt : xs.length < q
  ·have dl : decide (xs.length < q) = true := decide_eq_true hlt
   have dl2 : decide ((xs.length : Int) < (q : Int)) = true := decide_eq_true (by omega)
   obtain ⟨j, rfl⟩ : ∃ j, k = j + 1 := ⟨k - 1, by omega⟩
   have w2 : wrap64 ((xs.length : Int) + 1) = (xs.length : Int) + 1 := by unfold wrap64; omega
   have LEN := am (show (xs.length + 1) * 32 ≤ 140737488355328 by omega)
   go_wp2_with (first
    | (go_at_call 48; (with_reducible refine (HONE.out a1 _ HR.out).mono ?_); intro e w1 hh; rcases ret_cases hh with ⟨c, hc, rfl, hf⟩ | ⟨x, a2, v, hx, rfl, hv, hr, hf⟩; (exact ⟨rfl, ret_er (by rw [dList, bnd_ok HN.out, if_pos HM.out, Int.toNat_natCast, ← HE.out, preP_er xs hc]) rfl (HF.out.then_ hf (fun k hk => .inl hk))⟩); obtain ⟨cs, rfl, hM⟩ := hv; obtain rfl := k75_openM hM; have M4 := am hM; clear hM; have R4 := am hr; have O4 := am (Kd.R_step (Kd.R_bound (Kd.R_types HO.out HR.out.blk (by decide))) (fun k hk hlt => hf.k.2 k hlt hk.1.2)); have F4 := am (HF.out.then_ hf (fun k hk => .inl hk)); have W3 := am HF.out.size; have HX := am hx; clear hh hr hf hx HO HR HF)
    | ((with_reducible refine gate_builtin (b := .append) (xs := #[.tmp 18, .tmp 21]) rfl ?_); at_builtin; refine Kd.R_append k75 (w0 := W) 0 rfl (.tmp 18) (.tmp 21) 28 75 (.agg #[.string ⟨#[]⟩, .int .i64 0, .int .i64 0]) 32 rfl Tryd.underlying28 info75 rfl (by decide) (by decide) v8 xs x [.string x.f0, .int .i64 x.f1, .int .i64 x.f2] (fun k => W.heap.size ≤ k) (fun k => wr.heap.size ≤ k) rfl rfl M4.out ?cO (fun k hk => Nat.le_trans F4.out.size hk) (Kd.R_mono O4.out (fun _ hk => hk.1.1)) F4.out.b (Nat.zero_le _) LEN.out ?_; (case cO => exact fun k hk => ⟨Nat.le_trans W3.out hk, fun e => by have := (O4.out.1 k e.symm).2.2.1; omega⟩); intro v9 w5 ho hb hg hat; have R5 := am (rd_grown R4.out hg (fun k e => by have := (O4.out.1 k e).1.1; have := LG.out; omega)); have F5 := am (F4.out.then_ (Fr.grown hg (S := fun k => W.heap.size ≤ k) (fun k hk => (O4.out.1 k hk).1.1)) (fun k hk => .inr hk)); have O5 := am ho; clear ho hb hg hat O4 R4 F4 M4))
   exact ⟨⟨j, xs ++ [x], a2, _, by have := HK.out; simp; omega, rfl, by simp, O5.out, R5.out, F5.out, (preP_step xs HX.out).symm.trans HE.out⟩, by simp [intOf]; omega⟩
  ·have dl : decide (xs.length < q) = false := decide_eq_false hlt
   have dl2 : decide ((xs.length : Int) < (q : Int)) = false := decide_eq_false (by omega)
   obtain rfl : k = 0 := by omega
   go_wp2
   go_ret
   exact ret_ok (x := xs) (by rw [dList, bnd_ok HN.out, if_pos HM.out, Int.toNat_natCast, ← HE.out, preP_end]) rfl HO.out HR.out HF.out
set_option maxHeartbeats 4000000 in
set_option maxRecDepth 100000 in
theorem list_elem_c {g : Nat} {s : ByteArray} {a : Int} {W : World} (most : Int) (hm : most ≤ 1024) (p : Int → PR S77) (hone : ∀ a W, RdD g s a W → Calls Tryd.prog 50 #[.pointer (some ⟨g, 0, none⟩)] W (Ret (vM k77) g s W (p a))) (h : RdD g s a W) :
  Calls Tryd.prog 49 #[.pointer (some ⟨g, 0, none⟩), .int .i64 most, .func (.func 50) #[.pointer (some ⟨g, 0, none⟩)] #[]] W (Ret (vL k77 77) g s W (dList s most p a)) := by
 have R0 := am h
 have HONE := am hone
 have LG := am (blk_lt h.blk)
 clear h hone
 go_enter Tryd.func49, Tryd.ntmps49
 go_wp2_with (first
  | (go_at_call 41; (with_reducible refine (number_c R0.out).mono ?_); intro e w1 hh; rcases ret_cases hh with ⟨c, hc, rfl, hf⟩ | ⟨n, a0, v, hx, rfl, hv, hr, hf⟩; (exact ⟨rfl, ret_er (by rw [dList, bnd_er hc]) rfl hf⟩); (have hv : v = .int .i64 n := hv); subst hv; have R1 := am hr; have F1 := am hf; have HN0 := am hx; clear hh hr hf hx R0)
  | (go_at_call 23; (with_reducible refine (need_c _ _ _).mono ?_); rintro e w' ⟨rfl, (⟨hb, rfl⟩ | ⟨hb, rfl⟩)⟩; (exact ⟨rfl, ret_er (by rw [dList, bnd_ok HN0.out, if_neg (of_decide_eq_false hb)]) rfl F1.out⟩); have HM0 := am (of_decide_eq_true hb); clear hb))
 obtain ⟨q, rfl⟩ : ∃ q : Nat, n = q := ⟨n.toNat, by have := dNum_ok HN0.out; omega⟩
 have HN := HN0
 have HM := HM0
 have hq : q ≤ 1024 := by have := HM.out; omega
 clear HN0 HM0
 go_loopw [8, 16] (fun v8 v16 wr => RelL k77 77 g s W p q a0 v8 v16 wr) (fun _ v16 _ => q - (intOf v16).toNat)
 case atStart => exact ⟨q, [], a0, _, by simp, rfl, rfl, Kd.R_nil _ _ _ _ _, R1.out, F1.out, preP_nil _⟩
 case round =>
  obtain ⟨k, xs, a1, v8, hk, rfl, rfl, hO, hR, hF, hE⟩ := hrel
  have HO := am hO
  have HR := am hR
  have HF := am hF
  have HE := am hE
  have HK := am hk
  clear hO hR hF hE
  by_cases hlt : xs.length < q
  ·have dl : decide (xs.length < q) = true := decide_eq_true hlt
   have dl2 : decide ((xs.length : Int) < (q : Int)) = true := decide_eq_true (by omega)
   obtain ⟨j, rfl⟩ : ∃ j, k = j + 1 := ⟨k - 1, by omega⟩
   have w2 : wrap64 ((xs.length : Int) + 1) = (xs.length : Int) + 1 := by unfold wrap64; omega
   have LEN := am (show (xs.length + 1) * 48 ≤ 140737488355328 by omega)
   go_wp2_with (first
    | (go_at_call 50; (with_reducible refine (HONE.out a1 _ HR.out).mono ?_); intro e w1 hh; rcases ret_cases hh with ⟨c, hc, rfl, hf⟩ | ⟨x, a2, v, hx, rfl, hv, hr, hf⟩; (exact ⟨rfl, ret_er (by rw [dList, bnd_ok HN.out, if_pos HM.out, Int.toNat_natCast, ← HE.out, preP_er xs hc]) rfl (HF.out.then_ hf (fun k hk => .inl hk))⟩); obtain ⟨cs, rfl, hM⟩ := hv; obtain ⟨v0, v1, rfl, _, _⟩ := k77_openM hM; have M4 := am hM; clear hM; have R4 := am hr; have O4 := am (Kd.R_step (Kd.R_bound (Kd.R_types HO.out HR.out.blk (by decide))) (fun k hk hlt => hf.k.2 k hlt hk.1.2)); have F4 := am (HF.out.then_ hf (fun k hk => .inl hk)); have W3 := am HF.out.size; have HX := am hx; clear hh hr hf hx HO HR HF)
    | ((with_reducible refine gate_builtin (b := .append) (xs := #[.tmp 18, .tmp 21]) rfl ?_); at_builtin; refine Kd.R_append k77 (w0 := W) 0 rfl (.tmp 18) (.tmp 21) 29 77 (.agg #[.slice none 0 0, .slice none 0 0]) 48 rfl Tryd.underlying29 info77 rfl (by decide) (by decide) v8 xs x [v0, v1] (fun k => W.heap.size ≤ k) (fun k => wr.heap.size ≤ k) rfl rfl M4.out ?cO (fun k hk => Nat.le_trans F4.out.size hk) (Kd.R_mono O4.out (fun _ hk => hk.1.1)) F4.out.b (Nat.zero_le _) LEN.out ?_; (case cO => exact fun k hk => ⟨Nat.le_trans W3.out hk, fun e => by have := (O4.out.1 k e.symm).2.2.1; omega⟩); intro v9 w5 ho hb hg hat; have R5 := am (rd_grown R4.out hg (fun k e => by have := (O4.out.1 k e).1.1; have := LG.out; omega)); have F5 := am (F4.out.then_ (Fr.grown hg (S := fun k => W.heap.size ≤ k) (fun k hk => (O4.out.1 k hk).1.1)) (fun k hk => .inr hk)); have O5 := am ho; clear ho hb hg hat O4 R4 F4 M4))
   exact ⟨⟨j, xs ++ [x], a2, _, by have := HK.out; simp; omega, rfl, by simp, O5.out, R5.out, F5.out, (preP_step xs HX.out).symm.trans HE.out⟩, by simp [intOf]; omega⟩
  ·have dl : decide (xs.length < q) = false := decide_eq_false hlt
   have dl2 : decide ((xs.length : Int) < (q : Int)) = false := decide_eq_false (by omega)
   obtain rfl : k = 0 := by omega
   go_wp2
   go_ret
   exact ret_ok (x := xs) (by rw [dList, bnd_ok HN.out, if_pos HM.out, Int.toNat_natCast, ← HE.out, preP_end]) rfl HO.out HR.out HF.out
set_option maxHeartbeats 4000000 in
set_option maxRecDepth 100000 in
theorem list_code_c {g : Nat} {s : ByteArray} {a : Int} {W : World} (most : Int) (hm : most ≤ 1024) (p : Int → PR S57) (hone : ∀ a W, RdD g s a W → Calls Tryd.prog 52 #[.pointer (some ⟨g, 0, none⟩)] W (Ret (vM k57) g s W (p a))) (h : RdD g s a W) :
  Calls Tryd.prog 51 #[.pointer (some ⟨g, 0, none⟩), .int .i64 most, .func (.func 52) #[.pointer (some ⟨g, 0, none⟩)] #[]] W (Ret (vL k57 57) g s W (dList s most p a)) := by
 have R0 := am h
 have HONE := am hone
 have LG := am (blk_lt h.blk)
 clear h hone
 go_enter Tryd.func51, Tryd.ntmps51
 go_wp2_with (first
  | (go_at_call 41; (with_reducible refine (number_c R0.out).mono ?_); intro e w1 hh; rcases ret_cases hh with ⟨c, hc, rfl, hf⟩ | ⟨n, a0, v, hx, rfl, hv, hr, hf⟩; (exact ⟨rfl, ret_er (by rw [dList, bnd_er hc]) rfl hf⟩); (have hv : v = .int .i64 n := hv); subst hv; have R1 := am hr; have F1 := am hf; have HN0 := am hx; clear hh hr hf hx R0)
  | (go_at_call 23; (with_reducible refine (need_c _ _ _).mono ?_); rintro e w' ⟨rfl, (⟨hb, rfl⟩ | ⟨hb, rfl⟩)⟩; (exact ⟨rfl, ret_er (by rw [dList, bnd_ok HN0.out, if_neg (of_decide_eq_false hb)]) rfl F1.out⟩); have HM0 := am (of_decide_eq_true hb); clear hb))
 obtain ⟨q, rfl⟩ : ∃ q : Nat, n = q := ⟨n.toNat, by have := dNum_ok HN0.out; omega⟩
 have HN := HN0
 have HM := HM0
 have hq : q ≤ 1024 := by have := HM.out; omega
 clear HN0 HM0
 go_loopw [8, 16] (fun v8 v16 wr => RelL k57 57 g s W p q a0 v8 v16 wr) (fun _ v16 _ => q - (intOf v16).toNat)
 case atStart => exact ⟨q, [], a0, _, by simp, rfl, rfl, Kd.R_nil _ _ _ _ _, R1.out, F1.out, preP_nil _⟩
 case round =>
  obtain ⟨k, xs, a1, v8, hk, rfl, rfl, hO, hR, hF, hE⟩ := hrel
  have HO := am hO
  have HR := am hR
  have HF := am hF
  have HE := am hE
  have HK := am hk
  clear hO hR hF hE
  by_cases hlt : xs.length < q
  ·have dl : decide (xs.length < q) = true := decide_eq_true hlt
   have dl2 : decide ((xs.length : Int) < (q : Int)) = true := decide_eq_true (by omega)
   obtain ⟨j, rfl⟩ : ∃ j, k = j + 1 := ⟨k - 1, by omega⟩
   have w2 : wrap64 ((xs.length : Int) + 1) = (xs.length : Int) + 1 := by unfold wrap64; omega
   have LEN := am (show (xs.length + 1) * 48 ≤ 140737488355328 by omega)
   go_wp2_with (first
    | (go_at_call 52; (with_reducible refine (HONE.out a1 _ HR.out).mono ?_); intro e w1 hh; rcases ret_cases hh with ⟨c, hc, rfl, hf⟩ | ⟨x, a2, v, hx, rfl, hv, hr, hf⟩; (exact ⟨rfl, ret_er (by rw [dList, bnd_ok HN.out, if_pos HM.out, Int.toNat_natCast, ← HE.out, preP_er xs hc]) rfl (HF.out.then_ hf (fun k hk => .inl hk))⟩); obtain ⟨cs, rfl, hM⟩ := hv; obtain ⟨v0, v1, rfl, _, _⟩ := k57_openM hM; have M4 := am hM; clear hM; have R4 := am hr; have O4 := am (Kd.R_step (Kd.R_bound (Kd.R_types HO.out HR.out.blk (by decide))) (fun k hk hlt => hf.k.2 k hlt hk.1.2)); have F4 := am (HF.out.then_ hf (fun k hk => .inl hk)); have W3 := am HF.out.size; have HX := am hx; clear hh hr hf hx HO HR HF)
    | ((with_reducible refine gate_builtin (b := .append) (xs := #[.tmp 18, .tmp 21]) rfl ?_); at_builtin; refine Kd.R_append k57 (w0 := W) 0 rfl (.tmp 18) (.tmp 21) 30 57 (.agg #[.slice none 0 0, .slice none 0 0]) 48 rfl Tryd.underlying30 info57 rfl (by decide) (by decide) v8 xs x [v0, v1] (fun k => W.heap.size ≤ k) (fun k => wr.heap.size ≤ k) rfl rfl M4.out ?cO (fun k hk => Nat.le_trans F4.out.size hk) (Kd.R_mono O4.out (fun _ hk => hk.1.1)) F4.out.b (Nat.zero_le _) LEN.out ?_; (case cO => exact fun k hk => ⟨Nat.le_trans W3.out hk, fun e => by have := (O4.out.1 k e.symm).2.2.1; omega⟩); intro v9 w5 ho hb hg hat; have R5 := am (rd_grown R4.out hg (fun k e => by have := (O4.out.1 k e).1.1; have := LG.out; omega)); have F5 := am (F4.out.then_ (Fr.grown hg (S := fun k => W.heap.size ≤ k) (fun k hk => (O4.out.1 k hk).1.1)) (fun k hk => .inr hk)); have O5 := am ho; clear ho hb hg hat O4 R4 F4 M4))
   exact ⟨⟨j, xs ++ [x], a2, _, by have := HK.out; simp; omega, rfl, by simp, O5.out, R5.out, F5.out, (preP_step xs HX.out).symm.trans HE.out⟩, by simp [intOf]; omega⟩
  ·have dl : decide (xs.length < q) = false := decide_eq_false hlt
   have dl2 : decide ((xs.length : Int) < (q : Int)) = false := decide_eq_false (by omega)
   obtain rfl : k = 0 := by omega
   go_wp2
   go_ret
   exact ret_ok (x := xs) (by rw [dList, bnd_ok HN.out, if_pos HM.out, Int.toNat_natCast, ← HE.out, preP_end]) rfl HO.out HR.out HF.out
set_option maxHeartbeats 4000000 in
set_option maxRecDepth 100000 in
theorem list_data_c {g : Nat} {s : ByteArray} {a : Int} {W : World} (most : Int) (hm : most ≤ 1024) (p : Int → PR S80) (hone : ∀ a W, RdD g s a W → Calls Tryd.prog 54 #[.pointer (some ⟨g, 0, none⟩)] W (Ret (vM k80) g s W (p a))) (h : RdD g s a W) :
  Calls Tryd.prog 53 #[.pointer (some ⟨g, 0, none⟩), .int .i64 most, .func (.func 54) #[.pointer (some ⟨g, 0, none⟩)] #[]] W (Ret (vL k80 80) g s W (dList s most p a)) := by
 have R0 := am h
 have HONE := am hone
 have LG := am (blk_lt h.blk)
 clear h hone
 go_enter Tryd.func53, Tryd.ntmps53
 go_wp2_with (first
  | (go_at_call 41; (with_reducible refine (number_c R0.out).mono ?_); intro e w1 hh; rcases ret_cases hh with ⟨c, hc, rfl, hf⟩ | ⟨n, a0, v, hx, rfl, hv, hr, hf⟩; (exact ⟨rfl, ret_er (by rw [dList, bnd_er hc]) rfl hf⟩); (have hv : v = .int .i64 n := hv); subst hv; have R1 := am hr; have F1 := am hf; have HN0 := am hx; clear hh hr hf hx R0)
  | (go_at_call 23; (with_reducible refine (need_c _ _ _).mono ?_); rintro e w' ⟨rfl, (⟨hb, rfl⟩ | ⟨hb, rfl⟩)⟩; (exact ⟨rfl, ret_er (by rw [dList, bnd_ok HN0.out, if_neg (of_decide_eq_false hb)]) rfl F1.out⟩); have HM0 := am (of_decide_eq_true hb); clear hb))
 obtain ⟨q, rfl⟩ : ∃ q : Nat, n = q := ⟨n.toNat, by have := dNum_ok HN0.out; omega⟩
 have HN := HN0
 have HM := HM0
 have hq : q ≤ 1024 := by have := HM.out; omega
 clear HN0 HM0
 go_loopw [8, 16] (fun v8 v16 wr => RelL k80 80 g s W p q a0 v8 v16 wr) (fun _ v16 _ => q - (intOf v16).toNat)
 case atStart => exact ⟨q, [], a0, _, by simp, rfl, rfl, Kd.R_nil _ _ _ _ _, R1.out, F1.out, preP_nil _⟩
 case round =>
  obtain ⟨k, xs, a1, v8, hk, rfl, rfl, hO, hR, hF, hE⟩ := hrel
  have HO := am hO
  have HR := am hR
  have HF := am hF
  have HE := am hE
  have HK := am hk
  clear hO hR hF hE
  by_cases hlt : xs.length < q
  ·have dl : decide (xs.length < q) = true := decide_eq_true hlt
   have dl2 : decide ((xs.length : Int) < (q : Int)) = true := decide_eq_true (by omega)
   obtain ⟨j, rfl⟩ : ∃ j, k = j + 1 := ⟨k - 1, by omega⟩
   have w2 : wrap64 ((xs.length : Int) + 1) = (xs.length : Int) + 1 := by unfold wrap64; omega
   have LEN := am (show (xs.length + 1) * 40 ≤ 140737488355328 by omega)
   go_wp2_with (first
    | (go_at_call 54; (with_reducible refine (HONE.out a1 _ HR.out).mono ?_); intro e w1 hh; rcases ret_cases hh with ⟨c, hc, rfl, hf⟩ | ⟨x, a2, v, hx, rfl, hv, hr, hf⟩; (exact ⟨rfl, ret_er (by rw [dList, bnd_ok HN.out, if_pos HM.out, Int.toNat_natCast, ← HE.out, preP_er xs hc]) rfl (HF.out.then_ hf (fun k hk => .inl hk))⟩); obtain ⟨cs, rfl, hM⟩ := hv; obtain ⟨v0, rfl, _⟩ := k80_openM hM; have M4 := am hM; clear hM; have R4 := am hr; have O4 := am (Kd.R_step (Kd.R_bound (Kd.R_types HO.out HR.out.blk (by decide))) (fun k hk hlt => hf.k.2 k hlt hk.1.2)); have F4 := am (HF.out.then_ hf (fun k hk => .inl hk)); have W3 := am HF.out.size; have HX := am hx; clear hh hr hf hx HO HR HF)
    | ((with_reducible refine gate_builtin (b := .append) (xs := #[.tmp 18, .tmp 21]) rfl ?_); at_builtin; refine Kd.R_append k80 (w0 := W) 0 rfl (.tmp 18) (.tmp 21) 31 80 (.agg #[.slice none 0 0, .string ⟨#[]⟩]) 40 rfl Tryd.underlying31 info80 rfl (by decide) (by decide) v8 xs x [v0, .string x.f1] (fun k => W.heap.size ≤ k) (fun k => wr.heap.size ≤ k) rfl rfl M4.out ?cO (fun k hk => Nat.le_trans F4.out.size hk) (Kd.R_mono O4.out (fun _ hk => hk.1.1)) F4.out.b (Nat.zero_le _) LEN.out ?_; (case cO => exact fun k hk => ⟨Nat.le_trans W3.out hk, fun e => by have := (O4.out.1 k e.symm).2.2.1; omega⟩); intro v9 w5 ho hb hg hat; have R5 := am (rd_grown R4.out hg (fun k e => by have := (O4.out.1 k e).1.1; have := LG.out; omega)); have F5 := am (F4.out.then_ (Fr.grown hg (S := fun k => W.heap.size ≤ k) (fun k hk => (O4.out.1 k hk).1.1)) (fun k hk => .inr hk)); have O5 := am ho; clear ho hb hg hat O4 R4 F4 M4))
   exact ⟨⟨j, xs ++ [x], a2, _, by have := HK.out; simp; omega, rfl, by simp, O5.out, R5.out, F5.out, (preP_step xs HX.out).symm.trans HE.out⟩, by simp [intOf]; omega⟩
  ·have dl : decide (xs.length < q) = false := decide_eq_false hlt
   have dl2 : decide ((xs.length : Int) < (q : Int)) = false := decide_eq_false (by omega)
   obtain rfl : k = 0 := by omega
   go_wp2
   go_ret
   exact ret_ok (x := xs) (by rw [dList, bnd_ok HN.out, if_pos HM.out, Int.toNat_natCast, ← HE.out, preP_end]) rfl HO.out HR.out HF.out
end Go.Proofs.YtkdoijfjceeblaaDoor.EDec
end
