/-
  What the claim leans on, cut to what is used (wip/tools/prune15.py): words, printed functions, walks.
-/
import Derived.Test.YtkdoijfjceeblaaDoorQEDec9
import Derived.Test.YtkdoijfjceeblaaDoorQEDec10
import Derived.Test.YtkdoijfjceeblaaDoorQWPan2
namespace Go.Proofs.YtkdoijfjceeblaaDoor.EDec
open Go Go.RowKit Go.Proofs.YtkdoijfjceeblaaDoor.F Go.Proofs.YtkdoijfjceeblaaDoorW.Hand Go.Proofs.YtkdoijfjceeblaaDoorW.PrintWords Go.Proofs.YtkdoijfjceeblaaDoorW.PrintLast Go.Proofs.YtkdoijfjceeblaaDoorW.PrintMore
open Go.Proofs.YtkdoijfjceeblaaDoor.LebGets (G)
open Go.Proofs.YtkdoijfjceeblaaDoor.ENames (Tabs tabs_below nget nmay)
open Go.Proofs.YtkdoijfjceeblaaDoor.EInstr (GRes pGet get_b ret_int wrap_bt)
set_option linter.unusedVariables false
set_option linter.unusedSimpArgs false
attribute [local go_sem] Oper.semAt_some
def foldSec : Mod → List Sec → Except Int Mod
 | m, [] => .ok m
 | m, x :: rest => match dSec x.2 x.1 m with
  | .ok m1 => foldSec m1 rest
  | .error c => .error c
def hasHead (s : ByteArray) : Bool := decide (8 ≤ s.size) && ((s.extract 0 8).toList == [0, 97, 115, 109, 1, 0, 0, 0])
def dMod (s : ByteArray) : Except Int Mod := if ¬ s.size ≤ 65536 then .error 1508 else if hasHead s = false then .error 1500 else match foldSec m0 (dHeads (s.extract 8 s.size).size (s.extract 8 s.size) 0).1 with
 | .error c => .error c
 | .ok m => match (dHeads (s.extract 8 s.size).size (s.extract 8 s.size) 0).2 with
  | some c => .error c
  | none => if m.funcs.length = m.codes.length then .ok m else .error 1505
theorem foldSec_append (m : Mod) (xs ys : List Sec) : foldSec m (xs ++ ys) = match foldSec m xs with
  | .ok m1 => foldSec m1 ys
  | .error c => .error c := by
 induction xs generalizing m with
 | nil => rfl
 | cons x xs ih =>
  simp only [List.cons_append, foldSec]
  cases dSec x.2 x.1 m with
  | error c => rfl
  | ok m1 => exact ih m1
theorem foldSec_er {m m1 : Mod} {xs : List Sec} {x : Sec} {c : Int} (h : foldSec m xs = .ok m1) (hx : dSec x.2 x.1 m1 = .error c) (ys : List Sec) : foldSec m (xs ++ [x] ++ ys) = .error c := by
 rw [foldSec_append, foldSec_append, h]
 simp [foldSec, hx]
theorem foldSec_step {m m1 m2 : Mod} {xs : List Sec} {x : Sec} (h : foldSec m xs = .ok m1) (hx : dSec x.2 x.1 m1 = .ok m2) : foldSec m (xs ++ [x]) = .ok m2 := by
 rw [foldSec_append, h]
 simp [foldSec, hx]
def ModVal (B : Nat) (W : World) (m : Mod) (v : Value) : Prop := ∃ v0 v1 v2 v3 v4 v5 v6 v8 v9 v10, v = .agg #[v0, v1, v2, v3, v4, v5, v6, .int .i64 m.start, v8, v9, v10] ∧ k51.R 51 W 0 (fun k => B ≤ k) v0 m.types ∧ k92.R 92 W 0 (fun k => B ≤ k) v1 m.imports ∧ (Kd.int .i64).R 3 W 0 (fun k => B ≤ k) v2 m.funcs ∧ k54.R 54 W 0 (fun k => B ≤ k) v3 m.tables ∧ k54.R 54 W 0 (fun k => B ≤ k) v4 m.mems ∧ k72.R 72 W 0 (fun k => B ≤ k) v5 m.globals ∧ k75.R 75 W 0 (fun k => B ≤ k) v6 m.exports ∧ k77.R 77 W 0 (fun k => B ≤ k) v8 m.elems ∧ k57.R 57 W 0 (fun k => B ≤ k) v9 m.codes ∧ k80.R 80 W 0 (fun k => B ≤ k) v10 m.datas
def ZMod : Value := .agg #[.slice none 0 0, .slice none 0 0, .slice none 0 0, .slice none 0 0, .slice none 0 0, .slice none 0 0, .slice none 0 0, .int .i64 0, .slice none 0 0, .slice none 0 0, .slice none 0 0]
def ModPost (W : World) (r : Except Int Mod) (e : Ending) (w' : World) : Prop := match r with
 | .ok m => ∃ v, e = .returned (.tuple #[v, .int .i64 0]) ∧ ModVal W.heap.size w' m v ∧ Below W.heap.size W w'
 | .error c => e = .returned (.tuple #[ZMod, .int .i64 c]) ∧ Below W.heap.size W w'
theorem leavesM_cons {P : Program} {F : Fence} {n : Nat} {fn : Func} {tmps : Array Value} {R : Ending → World → Prop} {fv : Fn} {cap dargs : Array Value} {ds : List Deferred} {u : FrameMode}
  {w : World} {f : FuncId} {args : Array Value} (hu : u ≠ .run) (hn : F.depth.isSome = true → 1 ≤ n) (hi : (invoke (.fn fv cap) dargs).run P w = .ok (.enter f args) w)
  (hl : ∀ g, (Target.fn fv cap).leads P w dargs = some g → F.fn g)
  (h : CallsDIn F (n - 1) P f args u w fun
   | .returned _, u', w' => LeavesInM F n P fn tmps R ds (settle u') w'
   | .panicked chain, u', w' => LeavesInM F n P fn tmps R ds (raised u' chain) w'
   | .outgrown, _, w' => R .outgrown w') :
  LeavesInM F n P fn tmps R ({ target := .fn fv cap, args := dargs } :: ds) u w :=
 ⟨hu, .inr ⟨hn, fv, cap, f, args, rfl, hi, hl, h⟩⟩
theorem leavesM_mark {P : Program} {F : Fence} {n : Nat} {fn : Func} {tmps : Array Value} {R : Ending → World → Prop} {ds : List Deferred} {u : FrameMode} {w : World} {D : Nat} {dargs : Array Value} (hu : u ≠ .run) (hD : w.heap[D]? = some (.deferred (some [])))
  (h : LeavesInM F n P fn tmps R ds u (w.putObj D (.deferred none))) : LeavesInM F n P fn tmps R ({ target := .collected D, args := dargs } :: ds) u w :=
 ⟨hu, .inl ⟨D, _, rfl, run_takeDeferred hD, h⟩⟩
theorem leave_er {n : Nat} {c : Int} {g2 g3 : Nat} {v0 v1 v2 v3 v4 v5 v6 v7 v8 v9 v10 v11 : Value} {W w : World} {tmps : Array Value} {r : Except Int Mod} (h23 : g2 ≠ g3) (t2 : tmps[2]? = some (.pointer (some ⟨g2, 0, none⟩))) (t3 : tmps[3]? = some (.pointer (some ⟨g3, 0, none⟩)))
  (k2 : w.heap[g2]? = some (.cells #[v0, v1, v2, v3, v4, v5, v6, v7, v8, v9, v10] 33 (0, 0))) (k3 : w.heap[g3]? = some (.cells #[v11] 34 (0, 0))) (hf : Fr W w (fun _ => False)) (e2 : W.heap.size ≤ g2) (e3 : W.heap.size ≤ g3) (hr : r = .error c) :
  LeavesInM Fence.wide n Tryd.prog Tryd.f13 tmps (ModPost W r) [{ target := .fn (.func 22) #[.pointer (some ⟨g2, 0, none⟩), .pointer (some ⟨g3, 0, none⟩)], args := #[] }] (.panicking [{ v := panD c, recovered := false }]) w := by
 refine leavesM_cons (f := 22) (args := #[.pointer (some ⟨g2, 0, none⟩), .pointer (some ⟨g3, 0, none⟩)]) (by simp) (fun h => by cases h) (by simp [go_sem]) (fun _ _ => trivial) ?_
 refine (mod1_panic (n - 1) h23 [] w k2 k3).mono ?_
 rintro e u' w' ⟨rfl, rfl, h2, h3, hF⟩
 have y0 : w'.cell? ⟨g2, 0, none⟩ = some (.slice none 0 0) := blk_cell h2 0
 have y1 : w'.cell? ⟨g2, 1, none⟩ = some (.slice none 0 0) := blk_cell h2 1
 have y2 : w'.cell? ⟨g2, 2, none⟩ = some (.slice none 0 0) := blk_cell h2 2
 have y3 : w'.cell? ⟨g2, 3, none⟩ = some (.slice none 0 0) := blk_cell h2 3
 have y4 : w'.cell? ⟨g2, 4, none⟩ = some (.slice none 0 0) := blk_cell h2 4
 have y5 : w'.cell? ⟨g2, 5, none⟩ = some (.slice none 0 0) := blk_cell h2 5
 have y6 : w'.cell? ⟨g2, 6, none⟩ = some (.slice none 0 0) := blk_cell h2 6
 have y7 : w'.cell? ⟨g2, 7, none⟩ = some (.int .i64 0) := blk_cell h2 7
 have y8 : w'.cell? ⟨g2, 8, none⟩ = some (.slice none 0 0) := blk_cell h2 8
 have y9 : w'.cell? ⟨g2, 9, none⟩ = some (.slice none 0 0) := blk_cell h2 9
 have y10 : w'.cell? ⟨g2, 10, none⟩ = some (.slice none 0 0) := blk_cell h2 10
 have z0 : w'.cell? ⟨g3, 0, none⟩ = some (.int .i64 c) := blk_cell h3 0
 subst hr
 refine ⟨.tuple #[ZMod, .int .i64 c], by simp [results, Tryd.f13, go_sem, t2, t3, ZMod, y0, y1, y2, y3, y4, y5, y6, y7, y8, y9, y10, z0], rfl, (hf.then_ hF (S := fun _ => False) (fun k hk => .inr (by rcases hk with hk | hk <;> omega))).to_below (fun _ h => h.elim)⟩
structure Inv (W w5 : World) (g2 g3 : Nat) (W' : World) : Prop where
 k2 : W'.heap[g2]? = some (.cells #[.slice none 0 0, .slice none 0 0, .slice none 0 0, .slice none 0 0, .slice none 0 0, .slice none 0 0, .slice none 0 0, .int .i64 0, .slice none 0 0, .slice none 0 0, .slice none 0 0] 33 (0, 0))
 k3 : W'.heap[g3]? = some (.cells #[.int .i64 0] 34 (0, 0))
 fr : Fr W W' (fun _ => False)
 tab : Tabs W'
 sz : w5.heap.size ≤ W'.heap.size
theorem inv_grown {W w5 A A' : World} {g2 g3 r : Nat} (h : Inv W w5 g2 g3 A) (hg : A.grownBy A' (some r)) (h2 : g2 ≠ r) (h3 : g3 ≠ r) (hW : W.heap.size ≤ r) (hr : 2 ≤ r) : Inv W w5 g2 g3 A' :=
 have hf : Fr A A' (fun k => k = r) := Fr.grown hg (fun k e => by injection e with e; exact e.symm)
 ⟨hf.block h.k2 h2, hf.block h.k3 h3, h.fr.then_ hf (fun k hk => .inr (by have : k = r := hk; omega)), tabs_fr h.tab hf (fun e => by have : 0 = r := e; omega) (fun e => by have : 1 = r := e; omega), Nat.le_trans h.sz hg.size⟩
theorem inv_put {W w5 A : World} {g2 g3 go Bi D : Nat} (h : Inv W w5 g2 g3 A) (hD : w5.heap.size ≤ D) (n1 : go < Bi ∧ g2 < Bi ∧ g3 < Bi) (l1 : Bi < w5.heap.size) (gB : W.heap.size ≤ Bi) (t : 2 ≤ W.heap.size) : Inv W w5 g2 g3 (A.putObj D (.deferred none)) :=
 inv_grown h (grownBy_putObj' A D (.deferred none)) (by omega) (by omega) (by omega) (by omega)
theorem inv_none {W w5 A A' : World} {g2 g3 : Nat} (h : Inv W w5 g2 g3 A) (hg : A.grownBy A' none) : Inv W w5 g2 g3 A' :=
 have hf : Fr A A' (fun _ => False) := Fr.grown hg (fun k e => by cases e)
 ⟨hf.block h.k2 (fun h => h), hf.block h.k3 (fun h => h), h.fr.then_ hf (fun k hk => hk.elim), tabs_fr h.tab hf (fun h => h) (fun h => h), Nat.le_trans h.sz hg.size⟩
theorem mod_turn {B go r : Nat} {A A' : World} {m : Mod} (h : ModAt B go A m) (hg : A.grownBy A' (some r)) (hgo : go ≠ r) (hr : r < B ∨ ∃ o, A.heap[r]? = some o ∧ o.isCells = false) : ModAt B go A' m := by
 obtain ⟨v0, v1, v2, v3, v4, v5, v6, v8, v9, v10, hK, h0, h1, h2, h3, h4, h5, h6, h8, h9, h10⟩ := h
 have key : ∀ k, (B ≤ k ∧ ∃ cells q, A.heap[k]? = some (.cells cells q (0, 0))) → k < A.heap.size → A'.heap[k]? = A.heap[k]? := by
  rintro k ⟨hB, cells, q, hc⟩ hlt
  refine hg.block k hlt (fun e => ?_)
  injection e with e
  subst e
  rcases hr with h | ⟨o, ho, hn⟩
  ·omega
  ·rw [hc] at ho
   cases ho
   cases hn
 have kk : ∀ {α : Type} {d : Kd α} {e : Nat} {v : Value} {xs : List α}, d.R e A 0 (fun k => B ≤ k) v xs → d.R e A' 0 (fun k => B ≤ k) v xs := fun h =>
  Kd.R_mono (Kd.R_step (Kd.R_bound h) (fun k hk hlt => key k ⟨hk.1, by obtain ⟨_, _, _, q, _, c, hc⟩ := hk; exact ⟨c, q, hc⟩⟩ hlt)) (fun _ hk => hk.1)
 exact ⟨v0, v1, v2, v3, v4, v5, v6, v8, v9, v10, (hg.block go (blk_lt hK) (fun e => hgo (by injection e))).trans hK, kk h0, kk h1, kk h2, kk h3, kk h4, kk h5, kk h6, kk h8, kk h9, kk h10⟩
theorem mod_none {B go : Nat} {A A' : World} {m : Mod} (h : ModAt B go A m) (hg : A.grownBy A' none) : ModAt B go A' m := by
 obtain ⟨v0, v1, v2, v3, v4, v5, v6, v8, v9, v10, hK, h0, h1, h2, h3, h4, h5, h6, h8, h9, h10⟩ := h
 exact ⟨v0, v1, v2, v3, v4, v5, v6, v8, v9, v10, (hg.block go (blk_lt hK) (fun e => by cases e)).trans hK, Kd.R_step h0 (fun k _ hk => hg.block k hk (fun e => by cases e)), Kd.R_step h1 (fun k _ hk => hg.block k hk (fun e => by cases e)), Kd.R_step h2 (fun k _ hk => hg.block k hk (fun e => by cases e)), Kd.R_step h3 (fun k _ hk => hg.block k hk (fun e => by cases e)), Kd.R_step h4 (fun k _ hk => hg.block k hk (fun e => by cases e)), Kd.R_step h5 (fun k _ hk => hg.block k hk (fun e => by cases e)), Kd.R_step h6 (fun k _ hk => hg.block k hk (fun e => by cases e)), Kd.R_step h8 (fun k _ hk => hg.block k hk (fun e => by cases e)), Kd.R_step h9 (fun k _ hk => hg.block k hk (fun e => by cases e)), Kd.R_step h10 (fun k _ hk => hg.block k hk (fun e => by cases e))⟩
theorem val_turn {B r : Nat} {A A' : World} {m : Mod} {v : Value} (h : ModVal B A m v) (hg : A.grownBy A' (some r)) (hr : r < B ∨ ∃ o, A.heap[r]? = some o ∧ o.isCells = false) : ModVal B A' m v := by
 obtain ⟨v0, v1, v2, v3, v4, v5, v6, v8, v9, v10, hK, h0, h1, h2, h3, h4, h5, h6, h8, h9, h10⟩ := h
 have key : ∀ k, (B ≤ k ∧ ∃ cells q, A.heap[k]? = some (.cells cells q (0, 0))) → k < A.heap.size → A'.heap[k]? = A.heap[k]? := by
  rintro k ⟨hB, cells, q, hc⟩ hlt
  refine hg.block k hlt (fun e => ?_)
  injection e with e
  subst e
  rcases hr with h | ⟨o, ho, hn⟩
  ·omega
  ·rw [hc] at ho
   cases ho
   cases hn
 have kk : ∀ {α : Type} {d : Kd α} {e : Nat} {v : Value} {xs : List α}, d.R e A 0 (fun k => B ≤ k) v xs → d.R e A' 0 (fun k => B ≤ k) v xs := fun h =>
  Kd.R_mono (Kd.R_step (Kd.R_bound h) (fun k hk hlt => key k ⟨hk.1, by obtain ⟨_, _, _, q, _, c, hc⟩ := hk; exact ⟨c, q, hc⟩⟩ hlt)) (fun _ hk => hk.1)
 exact ⟨v0, v1, v2, v3, v4, v5, v6, v8, v9, v10, hK, kk h0, kk h1, kk h2, kk h3, kk h4, kk h5, kk h6, kk h8, kk h9, kk h10⟩
theorem val_mono {B B' : Nat} {A : World} {m : Mod} {v : Value} (h : ModVal B A m v) (hB : B' ≤ B) : ModVal B' A m v := by
 obtain ⟨v0, v1, v2, v3, v4, v5, v6, v8, v9, v10, hK, h0, h1, h2, h3, h4, h5, h6, h8, h9, h10⟩ := h
 exact ⟨v0, v1, v2, v3, v4, v5, v6, v8, v9, v10, hK, Kd.R_mono h0 (fun k hk => Nat.le_trans hB hk), Kd.R_mono h1 (fun k hk => Nat.le_trans hB hk), Kd.R_mono h2 (fun k hk => Nat.le_trans hB hk), Kd.R_mono h3 (fun k hk => Nat.le_trans hB hk), Kd.R_mono h4 (fun k hk => Nat.le_trans hB hk), Kd.R_mono h5 (fun k hk => Nat.le_trans hB hk), Kd.R_mono h6 (fun k hk => Nat.le_trans hB hk), Kd.R_mono h8 (fun k hk => Nat.le_trans hB hk), Kd.R_mono h9 (fun k hk => Nat.le_trans hB hk), Kd.R_mono h10 (fun k hk => Nat.le_trans hB hk)⟩
theorem grown_of_store {A A' : World} {g : Nat} (hb : ∀ B wb, B ≤ g → Below B wb A → Below B wb A') (ho : ∀ k, k ≠ g → A'.heap[k]? = A.heap[k]?) (hs : A'.heap.size = A.heap.size) : A.grownBy A' (some g) :=
 have h := hb 0 A (Nat.zero_le _) (Below.refl _ _)
 ⟨h.os, h.tape, h.output, Nat.le_of_eq hs.symm, fun k _ hk => ho k (fun e => hk (by rw [e]))⟩
def IM (W w5 : World) (g2 g3 go : Nat) (pre : List Sec) (W' : World) : Prop := ∃ m, foldSec m0 pre = .ok m ∧ ModAt w5.heap.size go W' m ∧ Inv W w5 g2 g3 W'
def IP (W w5 : World) (g2 g3 : Nat) (ch : List PanicEntry) (pre : List Sec) (W' : World) : Prop := ∃ c ys x m, pre = ys ++ [x] ∧ foldSec m0 ys = .ok m ∧ dSec x.2 x.1 m = .error c ∧ ch = [{ v := panD c, recovered := false }] ∧ Inv W w5 g2 g3 W'
theorem keeps_sec {A A1 A2 : World} {g go : Nat} {cs : Array Value} {t : TypeId} (hg : g = A.heap.size) (h1 : Below A.heap.size A A1) (h2 : Fr A1 A2 (fun k => k = g ∨ k = go)) (hgo : A.heap[go]? = some (.cells cs t (0, 0))) : KeepsOthers A A2 :=
 ⟨Nat.le_trans h1.size h2.size, fun k o hk ho => by
  have hlt := (Array.getElem?_eq_some_iff.1 hk).1
  refine ((h2.k.2 k (Nat.lt_of_lt_of_le hlt h1.size) (fun e => ?_)).trans (h1.block k hlt)).trans hk
  rcases e with e | e
  ·omega
  ·subst e
   rw [hgo] at hk
   cases hk
   cases ho⟩
theorem dMod_long {s : ByteArray} (h : ¬ s.size ≤ 65536) : dMod s = .error 1508 := by rw [dMod, if_pos h]
theorem dMod_head {s : ByteArray} (h : s.size ≤ 65536) (h2 : hasHead s = false) : dMod s = .error 1500 := by rw [dMod, if_neg (fun hh => hh h), if_pos h2]
theorem dMod_rest {s : ByteArray} (h : s.size ≤ 65536) (h2 : hasHead s = true) : dMod s = match foldSec m0 (dHeads (s.extract 8 s.size).size (s.extract 8 s.size) 0).1 with
 | .error c => .error c
 | .ok m => match (dHeads (s.extract 8 s.size).size (s.extract 8 s.size) 0).2 with
  | some c => .error c
  | none => if m.funcs.length = m.codes.length then .ok m else .error 1505 := by rw [dMod, if_neg (fun hh => hh h), if_neg (by rw [h2]; decide)]
theorem tabs_two {W : World} (h : Tabs W) : 2 ≤ W.heap.size := by
 have := (h.2 0 (by decide)).1
 rcases Nat.lt_or_ge 1 W.heap.size with h | h
 ·exact h
 ·exfalso
  rw [World.cell?, Array.getElem?_eq_none h] at this
  cases this
theorem fold_iter {s : ByteArray} {pre : List Sec} {m : Mod} {c : Int} (hs : s.size ≤ 65536) (hh : hasHead s = true) (hE : dHeads (s.extract 8 s.size).size (s.extract 8 s.size) 0 = (pre, some c)) (hm : foldSec m0 pre = .ok m) : dMod s = .error c := by rw [dMod_rest hs hh, hE, hm]
theorem fold_sec {s : ByteArray} {pre post ys : List Sec} {x : Sec} {m : Mod} {c : Int} (hs : s.size ≤ 65536) (hh : hasHead s = true) (hE : (dHeads (s.extract 8 s.size).size (s.extract 8 s.size) 0).1 = pre ++ post) (hp : pre = ys ++ [x]) (hm : foldSec m0 ys = .ok m) (hx : dSec x.2 x.1 m = .error c) : dMod s = .error c := by
 subst hp
 rw [dMod_rest hs hh, hE, foldSec_er hm hx]
theorem fold_all {s : ByteArray} {pre : List Sec} {m : Mod} (hs : s.size ≤ 65536) (hh : hasHead s = true) (hE : dHeads (s.extract 8 s.size).size (s.extract 8 s.size) 0 = (pre, none)) (hm : foldSec m0 pre = .ok m) : dMod s = if m.funcs.length = m.codes.length then .ok m else .error 1505 := by rw [dMod_rest hs hh, hE, hm]
theorem leave_ok {n : Nat} {g2 g3 : Nat} {v0 v1 v2 v3 v4 v5 v6 v7 v8 v9 v10 : Value} {W w : World} {tmps : Array Value} {r : Except Int Mod} {m : Mod} (t2 : tmps[2]? = some (.pointer (some ⟨g2, 0, none⟩))) (t3 : tmps[3]? = some (.pointer (some ⟨g3, 0, none⟩)))
  (k2 : w.heap[g2]? = some (.cells #[v0, v1, v2, v3, v4, v5, v6, v7, v8, v9, v10] 33 (0, 0))) (k3 : w.heap[g3]? = some (.cells #[.int .i64 0] 34 (0, 0))) (hf : Fr W w (fun _ => False)) (hr : r = .ok m) (hm : ModVal W.heap.size w m (.agg #[v0, v1, v2, v3, v4, v5, v6, v7, v8, v9, v10])) :
  LeavesInM Fence.wide n Tryd.prog Tryd.f13 tmps (ModPost W r) [{ target := .fn (.func 22) #[.pointer (some ⟨g2, 0, none⟩), .pointer (some ⟨g3, 0, none⟩)], args := #[] }] .returning w := by
 refine leavesM_cons (f := 22) (args := #[.pointer (some ⟨g2, 0, none⟩), .pointer (some ⟨g3, 0, none⟩)]) (by simp) (fun h => by cases h) (by simp [go_sem]) (fun _ _ => trivial) ?_
 refine (mod1_idle (n - 1) _ _ w).mono ?_
 rintro e u' w' ⟨rfl, rfl, rfl⟩
 have y0 : w'.cell? ⟨g2, 0, none⟩ = some v0 := blk_cell k2 0
 have y1 : w'.cell? ⟨g2, 1, none⟩ = some v1 := blk_cell k2 1
 have y2 : w'.cell? ⟨g2, 2, none⟩ = some v2 := blk_cell k2 2
 have y3 : w'.cell? ⟨g2, 3, none⟩ = some v3 := blk_cell k2 3
 have y4 : w'.cell? ⟨g2, 4, none⟩ = some v4 := blk_cell k2 4
 have y5 : w'.cell? ⟨g2, 5, none⟩ = some v5 := blk_cell k2 5
 have y6 : w'.cell? ⟨g2, 6, none⟩ = some v6 := blk_cell k2 6
 have y7 : w'.cell? ⟨g2, 7, none⟩ = some v7 := blk_cell k2 7
 have y8 : w'.cell? ⟨g2, 8, none⟩ = some v8 := blk_cell k2 8
 have y9 : w'.cell? ⟨g2, 9, none⟩ = some v9 := blk_cell k2 9
 have y10 : w'.cell? ⟨g2, 10, none⟩ = some v10 := blk_cell k2 10
 have z0 : w'.cell? ⟨g3, 0, none⟩ = some (.int .i64 0) := blk_cell k3 0
 subst hr
 exact ⟨.tuple #[.agg #[v0, v1, v2, v3, v4, v5, v6, v7, v8, v9, v10], .int .i64 0], by simp [results, Tryd.f13, go_sem, t2, t3, y0, y1, y2, y3, y4, y5, y6, y7, y8, y9, y10, z0], _, rfl, hm, hf.to_below (fun _ h => h.elim)⟩
theorem hasPrefix_c (s : ByteArray) (w : World) : Calls Tryd.prog 24 #[.string s, .string ⟨#[0, 97, 115, 109, 1, 0, 0, 0]⟩] w fun e w' => e = .returned (.bool (hasHead s)) ∧ w = w' := by
 go_enter Tryd.func24, Tryd.ntmps24
 go_wp2
 ·have h8 : 8 ≤ s.size := by omega
  have e : hasHead s = ((s.extract 0 8).toList == [0, 97, 115, 109, 1, 0, 0, 0]) := by rw [hasHead, decide_eq_true h8, Bool.true_and]
  rw [e]
  go_ret
  exact ⟨rfl, rfl⟩
 ·have h8 : ¬ 8 ≤ s.size := by omega
  have e : hasHead s = false := by rw [hasHead, decide_eq_false h8, Bool.false_and]
  rw [e]
  go_ret
  exact ⟨rfl, rfl⟩
theorem hp_c {s : ByteArray} {b : Bool} (h : hasHead s = b) (w : World) : Calls Tryd.prog 24 #[.string s, .string ⟨#[0, 97, 115, 109, 1, 0, 0, 0]⟩] w fun e w' => e = .returned (.bool b) ∧ w = w' := h ▸ hasPrefix_c s w
theorem head_len {s : ByteArray} (h : hasHead s = true) : 8 ≤ s.size := by
 rw [hasHead, Bool.and_eq_true] at h
 exact of_decide_eq_true h.1
theorem sec_c (u : ByteArray) (w : World) : Calls Tryd.prog 25 #[.string u] w fun e w' => ∃ Bi, e = .returned (.func (.func 33) #[] #[.pointer (some ⟨Bi, 0, none⟩)]) ∧ Bi = w.heap.size ∧ w'.heap[Bi]? = some (.cells #[.string u] 9 (0, 0)) ∧ Below w.heap.size w w' := by
 refine (callsIn_wide (n := 0)).1 ((sections_c 0 u w).mono ?_)
 rintro e w' ⟨rfl, rfl⟩
 exact ⟨_, rfl, rfl, blk_new w _, below_alloc (Below.refl _ _) _⟩
set_option maxHeartbeats 4000000 in
set_option maxRecDepth 100000 in
theorem module_c {s : ByteArray} {W : World} (hT : Tabs W) : Calls Tryd.prog 13 #[.string s] W (ModPost W (dMod s)) := by
 refine (callsIn_wide (n := 3)).1 ?_
 refine callsIn_at_marks Tryd.func13 rfl trivial ?_ rfl
 simp only [Tryd.ntmps13, List.size_toArray, List.length_cons, List.length_nil, Nat.reduceAdd, Nat.reduceSub, Array.replicate_succ, Array.replicate_zero, List.push_toArray, List.append_toArray, List.nil_append, List.cons_append]
 have hmf : ∀ (fn : Fn) (first cap : Array Value) (w : World), (Instr.makeFunc fn first cap).run Tryd.prog w = .ok (.func fn first cap) w := fun _ _ _ _ => rfl
 have HT := am hT
 refine wpAt_seq (wpAt_in (wpIn_wide.2 ?_))
 go_wp2_with (first | ((with_reducible refine gate_dst (N := 2) rfl ?_); refine box_event ?hg (N := 2) ?hd (cs := #[.slice none 0 0, .slice none 0 0, .slice none 0 0, .slice none 0 0, .slice none 0 0, .slice none 0 0, .slice none 0 0, .int .i64 0, .slice none 0 0, .slice none 0 0, .slice none 0 0]) (t := 33) ?hr ?_; (case hd => rfl); (case hg => rfl); (case hr => first | (go_simp; done) | (go_simp; rfl)); intro g2 hgg2 w1 hA hb; have KA2 := am hA; have F1 := am (Fr.of_below hb (fun _ => False)); have GA2 := am (show W.heap.size ≤ g2 by omega); clear hgg2 hA hb) | ((with_reducible refine gate_dst (N := 3) rfl ?_); refine box_event ?hg (N := 3) ?hd (cs := #[.int .i64 0]) (t := 34) ?hr ?_; (case hd => rfl); (case hg => rfl); (case hr => first | (go_simp; done) | (go_simp; rfl)); intro g3 hgg3 w2 hA hb; have KB3 := am hA; have KB2 := am (blk_below KA2.out hb); have F2 := am (F1.out.below hb); have N23 := am (show g2 ≠ g3 by have := blk_lt KA2.out; omega); have GA3 := am (show W.heap.size ≤ g3 by have := F1.out.size; omega); have LT23 := am (show g2 < g3 by have := blk_lt KA2.out; omega); clear hgg3 hA hb KA2 F1))
 refine wpAt_seq (wpAt_in (wpIn_wide.2 ?_))
 go_wp2
 refine wpAt_seq (wpAt_in (wpIn_wide.2 ?_))
 by_cases hs : s.size ≤ 65536
 ·have d0 : decide ((s.size : Int) ≤ 65536) = true := decide_eq_true (by omega)
  have d1 : decide (s.size ≤ 65536) = true := decide_eq_true hs
  have HS := am hs
  clear hs
  go_wp2_with (go_at_call 23; (with_reducible refine (need_yes _ _).mono ?_); rintro e w' ⟨rfl, rfl⟩)
  refine wpAt_seq (wpAt_in (wpIn_wide.2 ?_))
  cases hh : hasHead s
  ·have HH := am hh
   clear hh
   go_wp2_with (first | (go_at_call 24; (with_reducible refine (hp_c HH.out w2).mono ?_); rintro e w' ⟨rfl, rfl⟩) | (go_at_call 23; (with_reducible refine (need_no _ _).mono ?_); rintro e w' ⟨rfl, rfl⟩; exact leave_er N23.out rfl rfl KB2.out KB3.out F2.out GA2.out GA3.out (by first | exact dMod_long HS.out | exact dMod_head HS.out HH.out)))
  ·have l8 : 8 ≤ s.size := head_len hh
   have l8i : (8 : Int) ≤ (s.size : Int) := by omega
   have HH := am hh
   clear hh
   go_wp2_with (first | (go_at_call 24; (with_reducible refine (hp_c HH.out w2).mono ?_); rintro e w' ⟨rfl, rfl⟩) | (go_at_call 23; (with_reducible refine (need_yes _ _).mono ?_); rintro e w' ⟨rfl, rfl⟩))
   refine wpAt_seq (wpAt_in (wpIn_wide.2 ?_))
   go_wp2_with (first | ((with_reducible refine gate_dst (N := 4) rfl ?_); refine box_event ?hg (N := 4) ?hd (cs := #[.slice none 0 0, .slice none 0 0, .slice none 0 0, .slice none 0 0, .slice none 0 0, .slice none 0 0, .slice none 0 0, .int .i64 0, .slice none 0 0, .slice none 0 0, .slice none 0 0]) (t := 33) ?hr ?_; (case hd => rfl); (case hg => rfl); (case hr => first | (go_simp; done) | (go_simp; rfl)); intro go hggo w3 hA hb; have KC4 := am hA; have KC2 := am (blk_below KB2.out hb); have KC3 := am (blk_below KB3.out hb); have F3 := am (F2.out.below hb); have NO := am (show g2 ≠ go ∧ g3 ≠ go by have := blk_lt KB2.out; have := blk_lt KB3.out; omega); have GA4 := am (show W.heap.size ≤ go by have := F2.out.size; omega); clear hggo hA hb KB2 KB3 F2) | ((with_reducible refine gate_store (p := 4) rfl ?_); refine storeRow_event (g := go) rfl rfl rfl (cs := #[.slice none 0 0, .slice none 0 0, .slice none 0 0, .slice none 0 0, .slice none 0 0, .slice none 0 0, .slice none 0 0, .int .i64 (-1), .slice none 0 0, .slice none 0 0, .slice none 0 0]) rfl rfl KC4.out (by kernel_rfl) rfl (by simp [Value.oneCell']) ?_; intro w4 hA hb ho hs; have KD4 := am hA; have KD2 := am ((ho g2 NO.out.1).trans KC2.out); have KD3 := am ((ho g3 NO.out.2).trans KC3.out); have F4 := am (fr_new F3.out (Fr.stored (S := fun k => k = go) hb ho hs rfl) GA4.out); clear hA hb ho hs KC4 KC2 KC3 F3))
   refine wpAt_seq (wpAt_seq (wpAt_in (wpIn_wide.2 ?_)))
   go_wp2_with (go_at_call 25; (with_reducible refine (sec_c (s.extract 8 s.size) w4).mono ?_); rintro e w5 ⟨Bi, rfl, hBi, hKB, hb⟩; have KBi := am hKB; have KE4 := am (blk_below KD4.out hb); have KE2 := am (blk_below KD2.out hb); have KE3 := am (blk_below KD3.out hb); have F5 := am (F4.out.below hb); have GAB := am (show W.heap.size ≤ Bi by have := F4.out.size; omega); have NB := am (show go < Bi ∧ g2 < Bi ∧ g3 < Bi by have := blk_lt KD4.out; have := blk_lt KD2.out; have := blk_lt KD3.out; omega); clear hKB hb hBi KD2 KD3 KD4 F4)
   have TW := am (tabs_two HT.out)
   have LB := am (blk_lt KBi.out)
   have LGO := am (blk_lt KE4.out)
   have hIM : OwnT (fun k => k = Bi) (IM W w5 g2 g3 go) := by
    rintro pre A A' row ⟨m, h1, h2, h3⟩ hg hr
    cases row with
    | none => exact ⟨m, h1, mod_none h2 hg, inv_none h3 hg⟩
    | some r =>
     obtain rfl := hr r rfl
     have n1 := NB.out
     have l1 := LB.out
     have g1 := GAB.out
     have t1 := TW.out
     exact ⟨m, h1, mod_turn h2 hg (by omega) (.inl l1), inv_grown h3 hg (by omega) (by omega) g1 (by omega)⟩
   have hIN : OwnN w5.heap.size (IM W w5 g2 g3 go) := by
    rintro pre A A' r o ⟨m, h1, h2, h3⟩ hg hB ho hn
    have n1 := NB.out
    have l1 := LB.out
    have g1 := GAB.out
    have t1 := TW.out
    exact ⟨m, h1, mod_turn h2 hg (by omega) (.inr ⟨o, ho, hn⟩), inv_grown h3 hg (by omega) (by omega) (by omega) (by omega)⟩
   have hIP : ∀ c, OwnT (fun k => k = Bi) (IP W w5 g2 g3 c) := by
    rintro ch pre A A' row ⟨c, ys, x, m, e1, e2, e3, e4, h3⟩ hg hr
    cases row with
    | none => exact ⟨c, ys, x, m, e1, e2, e3, e4, inv_none h3 hg⟩
    | some r =>
     obtain rfl := hr r rfl
     have n1 := NB.out
     have g1 := GAB.out
     have t1 := TW.out
     exact ⟨c, ys, x, m, e1, e2, e3, e4, inv_grown h3 hg (by omega) (by omega) g1 (by omega)⟩
   have h0 : IM W w5 g2 g3 go [] w5 := ⟨m0, rfl, ⟨_, _, _, _, _, _, _, _, _, _, KE4.out, Kd.R_nil _ _ _ _ _, Kd.R_nil _ _ _ _ _, Kd.R_nil _ _ _ _ _, Kd.R_nil _ _ _ _ _, Kd.R_nil _ _ _ _ _, Kd.R_nil _ _ _ _ _, Kd.R_nil _ _ _ _ _, Kd.R_nil _ _ _ _ _, Kd.R_nil _ _ _ _ _, Kd.R_nil _ _ _ _ _⟩, KE2.out, KE3.out, F5.out, tabs_fr HT.out F5.out (fun h => h) (fun h => h), Nat.le_refl _⟩
   have hu : (s.extract 8 s.size).size ≤ 65536 := by rw [ByteArray.size_extract]; have := HS.out; omega
   refine wpAt_block ?_
   refine range_at (Gd := GdS) Tryd.func13 trivial rfl (by omega) (gf := 33) (lb := #[.pointer (some ⟨Bi, 0, none⟩)]) rfl trivial (enters_of Tryd.func33 (by kernel_rfl) rfl) (sections_seq 2 w5 Bi (s.extract 8 s.size) KBi.out hu) (fun k hk => hk ▸ LB.out) (Below.refl _ _) (fun _ => rfl) (IM W w5 g2 g3 go) (IP W w5 g2 g3) hIM hIN hIP h0
    (fun x => { tmps := #[.string s, undef, .pointer (some ⟨g2, 0, none⟩), .pointer (some ⟨g3, 0, none⟩), .pointer (some ⟨go, 0, none⟩), .int .i64 x.1, .string x.2, .func (.func 22) #[] #[.pointer (some ⟨g2, 0, none⟩), .pointer (some ⟨g3, 0, none⟩)], .string s, .int .i64 (s.size : Int), .bool true, .tuple #[], .string s, .bool true, .tuple #[], .agg #[.slice none 0 0, .slice none 0 0, .slice none 0 0, .slice none 0 0, .slice none 0 0, .slice none 0 0, .slice none 0 0, .int .i64 (-1), .slice none 0 0, .slice none 0 0, .slice none 0 0], .string s, .string (s.extract 8 s.size), .func (.func 33) #[] #[.pointer (some ⟨Bi, 0, none⟩)], .int .i64 x.1, .string x.2, undef, undef, undef, undef, undef, undef, undef, undef, undef, undef, undef, undef, undef, undef], defers := [] }) ?assign ?body ?done ?pan
   case assign =>
    intro l x W1 Kc hKc
    gi_wp2
    first | exact hKc | simpa [encS] using hKc | (simp [encS]; exact hKc)
   case body =>
    rintro l pre x W1 ⟨hx0, hx11, hxs⟩ hl hlW ⟨m, hm, hM, hI⟩
    have n1 := NB.out
    have l1 := LB.out
    have z1 := hI.sz
    have t1 := TW.out
    have g4 := GA4.out
    have n2 := NO.out
    have b1 : Below W1.heap.size W1 (W1.alloc (.cells #[.string x.2, .int .i64 0] 68)) := below_alloc (Below.refl _ _) _
    have rd : RdD W1.heap.size x.2 0 (W1.alloc (.cells #[.string x.2, .int .i64 0] 68)) := ⟨blk_new W1 _, Int.le_refl _, Int.natCast_nonneg _, hxs, by omega, tabs_below hI.tab b1⟩
    have HC := am (CallsIn.inRound l ((callsIn_wide (n := 3 - 1 - 1 - 1)).2 (section_c (B := w5.heap.size) (g := W1.heap.size) (go := go) (by have := b1.size; omega) (by omega) (by omega) rd (mod_below hM b1) hx0 hx11)))
    have HG := hM
    obtain ⟨v0, v1, v2, v3, v4, v5, v6, v8, v9, v10, hgo, _⟩ := HG
    have KP : ∀ {w2 : World}, Fr (W1.alloc (.cells #[.string x.2, .int .i64 0] 68)) w2 (fun k => k = W1.heap.size ∨ k = go) → KeepsOthers W1 w2 ∧ (∀ k, k = Bi → w2.heap[k]? = W1.heap[k]?) ∧ Below 0 W1 w2 ∧ Inv W w5 g2 g3 w2 := fun {w2} h => by
     refine ⟨keeps_sec rfl b1 h hgo, ?_, (Below.zero b1 b1.size).trans h.b, h.block (blk_below hI.k2 b1) (by omega), h.block (blk_below hI.k3 b1) (by omega), (hI.fr.below b1).then_ h (fun k hk => .inr (by omega)), tabs_fr (tabs_below hI.tab b1) h (by omega) (by omega), Nat.le_trans z1 (Nat.le_trans b1.size h.size)⟩
     rintro k rfl
     exact (h.k.2 _ (by have := b1.size; omega) (by omega)).trans (b1.block _ (by omega))
    have HP := am @KP
    have HM := am hm
    clear hm hM hI rd hgo KP b1
    gi_wp2_with (refine ⟨trivial, ?_⟩; (try refine ⟨(fun h => by cases h), ?_⟩); gi_at_call 26; (with_reducible refine HC.out.mono ?_); intro e w2 hh; rcases sec_cases hh with ⟨c, hc, rfl, hf⟩ | ⟨m1, hc, rfl, hm1, hf⟩; (exact ⟨rfl, (HP.out hf).1, (HP.out hf).2.1, (HP.out hf).2.2.1, c, pre, x, m, rfl, HM.out, hc, rfl, (HP.out hf).2.2.2⟩); have HF := am hf; have HM1 := am hm1; have HX := am hc; clear hh hf hm1 hc)
    gi_wp2
    exact ⟨(HP.out HF.out).1, (HP.out HF.out).2.1, (HP.out HF.out).2.2.1, m1, foldSec_step HM.out HX.out, HM1.out, (HP.out HF.out).2.2.2⟩
   case pan =>
    rintro D ch pre W1 hD (⟨⟨c, hE, rfl⟩, m, hm, hM, hI⟩ | ⟨⟨post, hpre⟩, c, ys, x, m, hp, hm, hx, rfl, hI⟩) hK
    all_goals
     have n1 := NB.out
     have l1 := LB.out
     have g1 := GAB.out
     have t1 := TW.out
     have hI2 := inv_grown hI (grownBy_putObj' W1 D (.deferred none)) (by omega) (by omega) (by omega) (by omega)
     refine leavesM_mark (by simp) hK ?_
    ·exact leave_er N23.out rfl rfl hI2.k2 hI2.k3 hI2.fr GA2.out GA3.out (fold_iter HS.out HH.out hE hm)
    ·exact leave_er N23.out rfl rfl hI2.k2 hI2.k3 hI2.fr GA2.out GA3.out (fold_sec HS.out HH.out hpre hp hm hx)
   case done =>
    rintro D xs W1 hD hE ⟨m, hm, hM, hI⟩ hK
    have HFA := am (fold_all HS.out HH.out hE hm)
    obtain ⟨v0, v1, v2, v3, v4, v5, v6, v8, v9, v10, hgo, h0, h1, h2, h3, h4, h5, h6, h8, h9, h10⟩ := hM
    obtain ⟨A0, c0, rfl⟩ := Kd.R_slice h0
    obtain ⟨A1, c1, rfl⟩ := Kd.R_slice h1
    obtain ⟨A2, c2, rfl⟩ := Kd.R_slice h2
    obtain ⟨A3, c3, rfl⟩ := Kd.R_slice h3
    obtain ⟨A4, c4, rfl⟩ := Kd.R_slice h4
    obtain ⟨A5, c5, rfl⟩ := Kd.R_slice h5
    obtain ⟨A6, c6, rfl⟩ := Kd.R_slice h6
    obtain ⟨A8, c8, rfl⟩ := Kd.R_slice h8
    obtain ⟨A9, c9, rfl⟩ := Kd.R_slice h9
    obtain ⟨A10, c10, rfl⟩ := Kd.R_slice h10
    have MV : Aside0 (ModVal w5.heap.size W1 m (.agg #[.slice A0 m.types.length c0, .slice A1 m.imports.length c1, .slice A2 m.funcs.length c2, .slice A3 m.tables.length c3, .slice A4 m.mems.length c4, .slice A5 m.globals.length c5, .slice A6 m.exports.length c6, .int .i64 m.start, .slice A8 m.elems.length c8, .slice A9 m.codes.length c9, .slice A10 m.datas.length c10])) := ⟨_, _, _, _, _, _, _, _, _, _, rfl, h0, h1, h2, h3, h4, h5, h6, h8, h9, h10⟩
    have y0 : W1.cell? ⟨go, 0, none⟩ = some (.slice A0 m.types.length c0) := blk_cell hgo 0
    have y1 : W1.cell? ⟨go, 1, none⟩ = some (.slice A1 m.imports.length c1) := blk_cell hgo 1
    have y2 : W1.cell? ⟨go, 2, none⟩ = some (.slice A2 m.funcs.length c2) := blk_cell hgo 2
    have y3 : W1.cell? ⟨go, 3, none⟩ = some (.slice A3 m.tables.length c3) := blk_cell hgo 3
    have y4 : W1.cell? ⟨go, 4, none⟩ = some (.slice A4 m.mems.length c4) := blk_cell hgo 4
    have y5 : W1.cell? ⟨go, 5, none⟩ = some (.slice A5 m.globals.length c5) := blk_cell hgo 5
    have y6 : W1.cell? ⟨go, 6, none⟩ = some (.slice A6 m.exports.length c6) := blk_cell hgo 6
    have y7 : W1.cell? ⟨go, 7, none⟩ = some (.int .i64 m.start) := blk_cell hgo 7
    have y8 : W1.cell? ⟨go, 8, none⟩ = some (.slice A8 m.elems.length c8) := blk_cell hgo 8
    have y9 : W1.cell? ⟨go, 9, none⟩ = some (.slice A9 m.codes.length c9) := blk_cell hgo 9
    have y10 : W1.cell? ⟨go, 10, none⟩ = some (.slice A10 m.datas.length c10) := blk_cell hgo 10
    have KI := am hI
    have HD := am hD
    have HKK := am hK
    clear hE hm hgo h0 h1 h2 h3 h4 h5 h6 h8 h9 h10 hI hD hK
    refine wpAt_in (wpIn_wide.2 ?_)
    by_cases hc : m.funcs.length = m.codes.length
    ·have ec : ((m.funcs.length : Int) == (m.codes.length : Int)) = true := by rw [hc]; exact beq_self_eq_true _
     have ec2 : (m.funcs.length == m.codes.length) = true := by rw [hc]; exact beq_self_eq_true _
     have HC := am hc
     clear hc
     go_wp2_with (first | (go_at_call 23; (with_reducible refine (need_yes _ _).mono ?_); rintro e w' ⟨rfl, rfl⟩) | ((with_reducible refine gate_store (p := 2) rfl ?_); refine storeRow_event (g := g2) rfl rfl rfl (cs := #[.slice A0 m.types.length c0, .slice A1 m.imports.length c1, .slice A2 m.funcs.length c2, .slice A3 m.tables.length c3, .slice A4 m.mems.length c4, .slice A5 m.globals.length c5, .slice A6 m.exports.length c6, .int .i64 m.start, .slice A8 m.elems.length c8, .slice A9 m.codes.length c9, .slice A10 m.datas.length c10]) rfl rfl KI.out.k2 (by kernel_rfl) rfl (by simp [Value.oneCell']) ?_; intro x1 hA hb ho hs; have KX2 := am hA; have KX3 := am ((ho g3 (Ne.symm N23.out)).trans KI.out.k3); have KDx := am ((ho D (show D ≠ g2 by have := HD.out; have := NB.out; have := LB.out; omega)).trans HKK.out); have FX := am (fr_new KI.out.fr (Fr.stored (S := fun k => k = g2) hb ho hs rfl) GA2.out); have MX := am (val_turn MV.out (grown_of_store hb ho hs) (.inl (by have := NB.out; have := LB.out; omega))); clear hA hb ho hs KI MV HKK) | ((with_reducible refine gate_store (p := 3) rfl ?_); refine storeCell_event (g := g3) (j := 0) (x := .int .i64 0) rfl rfl rfl rfl rfl KX3.out (by simp) (by kernel_rfl) rfl ?_; intro x2 hA hb ho hs; have KY3 : Aside0 (x2.heap[g3]? = some (.cells #[.int .i64 0] 34 (0, 0))) := ⟨hA⟩; have KY2 := am ((ho g2 N23.out).trans KX2.out); have KD := am ((ho D (show D ≠ g3 by have := HD.out; have := NB.out; have := LB.out; omega)).trans KDx.out); have FY := am (fr_new FX.out (Fr.stored (S := fun k => k = g3) hb ho hs rfl) GA3.out); have MY := am (val_turn MX.out (grown_of_store hb ho hs) (.inl (by have := NB.out; have := LB.out; omega))); clear hA hb ho hs KX3 KX2 KDx FX MX))
     have n1 := NB.out
     have l1 := LB.out
     have d1 := HD.out
     have hg := grownBy_putObj' x2 D (.deferred none)
     refine leavesM_mark (by simp) KD.out ?_
     exact leave_ok (n := 3) rfl rfl (hg.block g2 (blk_lt KY2.out) (fun e => by injection e with e; omega) |>.trans KY2.out) (hg.block g3 (blk_lt KY3.out) (fun e => by injection e with e; omega) |>.trans KY3.out) (FY.out.then_ (Fr.grown hg (S := fun k => k = D) (fun k e => by injection e with e; exact e.symm)) (fun k hk => .inr (by have := GAB.out; have : k = D := hk; omega))) (HFA.out.trans (if_pos HC.out)) (val_mono (val_turn MY.out hg (.inr ⟨_, KD.out, rfl⟩)) (by have := F5.out.size; omega))
    ·have ec : ((m.funcs.length : Int) == (m.codes.length : Int)) = false := beq_eq_false_iff_ne.2 (fun e => hc (by omega))
     have ec2 : (m.funcs.length == m.codes.length) = false := beq_eq_false_iff_ne.2 hc
     have HC := am hc
     clear hc
     go_wp2_with (go_at_call 23; (with_reducible refine (need_no _ _).mono ?_); rintro e w' ⟨rfl, rfl⟩; exact leavesM_mark (by simp) HKK.out (leave_er N23.out rfl rfl (inv_put KI.out HD.out NB.out LB.out GAB.out TW.out).k2 (inv_put KI.out HD.out NB.out LB.out GAB.out TW.out).k3 (inv_put KI.out HD.out NB.out LB.out GAB.out TW.out).fr GA2.out GA3.out (HFA.out.trans (if_neg HC.out))))
 ·have HS := am hs
  have d0 : decide ((s.size : Int) ≤ 65536) = false := decide_eq_false (by omega)
  have d1 : decide (s.size ≤ 65536) = false := decide_eq_false hs
  go_wp2_with (go_at_call 23; (with_reducible refine (need_no _ _).mono ?_); rintro e w' ⟨rfl, rfl⟩; exact leave_er N23.out rfl rfl KB2.out KB3.out F2.out GA2.out GA3.out (by first | exact dMod_long HS.out | exact dMod_head HS.out HH.out))
end Go.Proofs.YtkdoijfjceeblaaDoor.EDec
