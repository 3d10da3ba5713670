/-
  What the claim leans on, cut to what is used (wip/tools/prune15.py): words, printed functions, walks.
-/
import Derived.Test.YtkdoijfjceeblaaDoorQD4
namespace Go.Proofs.YtkdoijfjceeblaaDoor.EDec
open Go Go.RowKit Go.Proofs.YtkdoijfjceeblaaDoor.F Go.Proofs.YtkdoijfjceeblaaDoorW.Hand Go.Proofs.YtkdoijfjceeblaaDoorW.PrintWords Go.Proofs.YtkdoijfjceeblaaDoorW.PrintLast Go.Proofs.YtkdoijfjceeblaaDoorW.PrintMore
open Go.Proofs.YtkdoijfjceeblaaDoor.LebGets (G)
open Go.Proofs.YtkdoijfjceeblaaDoor.ENames (Tabs tabs_below nget nmay)
open Go.Proofs.YtkdoijfjceeblaaDoor.EInstr (GRes pGet get_b ret_int wrap_bt)
set_option linter.unusedVariables false
set_option linter.unusedSimpArgs false
structure Mod where
 types : List S51
 imports : List S92
 funcs : List Int
 tables : List S54
 mems : List S54
 globals : List S72
 exports : List S75
 start : Int
 elems : List S77
 codes : List S57
 datas : List S80
def m0 : Mod := { types := [], imports := [], funcs := [], tables := [], mems := [], globals := [], exports := [], start := -1, elems := [], codes := [], datas := [] }
def secA {α : Type} (s : ByteArray) (r : PR α) (f : α → Mod) : Except Int Mod := match r with
 | .ok (x, a) => if a = s.size then .ok (f x) else .error 1504
 | .error c => .error c
theorem secA_ok {α : Type} {s : ByteArray} {r : PR α} {f : α → Mod} {x : α} {a : Int} (h : r = .ok (x, a)) : secA s r f = if a = s.size then .ok (f x) else .error 1504 := by rw [h]; rfl
theorem secA_er {α : Type} {s : ByteArray} {r : PR α} {f : α → Mod} {c : Int} (h : r = .error c) : secA s r f = .error c := by rw [h]; rfl
def dSec (s : ByteArray) (id : Int) (m : Mod) : Except Int Mod :=
 if id = 0 then (match dName s 0 with
  | .ok _ => .ok m
  | .error c => .error c)
 else if id = 1 then secA s (dList s 256 (dFuncType s) 0) fun x => { m with types := x }
 else if id = 2 then secA s (dList s 1024 (dImport s) 0) fun x => { m with imports := x }
 else if id = 3 then secA s (dList s 256 (dNum s) 0) fun x => { m with funcs := x }
 else if id = 4 then secA s (dList s 1024 (dTable s) 0) fun x => { m with tables := x }
 else if id = 5 then secA s (dList s 1024 (dLimits s) 0) fun x => { m with mems := x }
 else if id = 6 then secA s (dList s 1024 (dGlobal s) 0) fun x => { m with globals := x }
 else if id = 7 then secA s (dList s 1024 (dExport s) 0) fun x => { m with exports := x }
 else if id = 8 then secA s (dNum s 0) fun x => { m with start := x }
 else if id = 9 then secA s (dList s 1024 (dElem s) 0) fun x => { m with elems := x }
 else if id = 10 then secA s (dList s 256 (dCode s) 0) fun x => { m with codes := x }
 else if id = 11 then secA s (dList s 1024 (dData s) 0) fun x => { m with datas := x }
 else secA s (.ok ((), 0)) fun _ => m
def ModAt (B go : Nat) (W : World) (m : Mod) : Prop := ∃ v0 v1 v2 v3 v4 v5 v6 v8 v9 v10, W.heap[go]? = some (.cells #[v0, v1, v2, v3, v4, v5, v6, .int .i64 m.start, v8, v9, v10] 33 (0, 0)) ∧ k51.R 51 W 0 (fun k => B ≤ k) v0 m.types ∧ k92.R 92 W 0 (fun k => B ≤ k) v1 m.imports ∧ (Kd.int .i64).R 3 W 0 (fun k => B ≤ k) v2 m.funcs ∧ k54.R 54 W 0 (fun k => B ≤ k) v3 m.tables ∧ k54.R 54 W 0 (fun k => B ≤ k) v4 m.mems ∧ k72.R 72 W 0 (fun k => B ≤ k) v5 m.globals ∧ k75.R 75 W 0 (fun k => B ≤ k) v6 m.exports ∧ k77.R 77 W 0 (fun k => B ≤ k) v8 m.elems ∧ k57.R 57 W 0 (fun k => B ≤ k) v9 m.codes ∧ k80.R 80 W 0 (fun k => B ≤ k) v10 m.datas
def SecPost (B g go : Nat) (W : World) (r : Except Int Mod) (e : Ending) (w' : World) : Prop := match r with
 | .ok m => e = .returned (.tuple #[]) ∧ ModAt B go w' m ∧ Fr W w' (fun k => k = g ∨ k = go)
 | .error c => e = .panicked [{ v := panD c, recovered := false }] ∧ Fr W w' (fun k => k = g ∨ k = go)
section
variable {B g go : Nat} {W w' : World} {r : Except Int Mod} {e : Ending}
theorem sec_ok {m : Mod} (h : r = .ok m) (he : e = .returned (.tuple #[])) (hm : ModAt B go w' m) (hf : Fr W w' (fun k => k = g ∨ k = go)) : SecPost B g go W r e w' := by
 subst h
 exact ⟨he, hm, hf⟩
theorem sec_er {c : Int} (h : r = .error c) (he : e = .panicked [{ v := panD c, recovered := false }]) (hf : Fr W w' (fun k => k = g ∨ k = go)) : SecPost B g go W r e w' := by
 subst h
 exact ⟨he, hf⟩
theorem sec_cases (h : SecPost B g go W r e w') : (∃ c, r = .error c ∧ e = .panicked [{ v := panD c, recovered := false }] ∧ Fr W w' (fun k => k = g ∨ k = go)) ∨ (∃ m, r = .ok m ∧ e = .returned (.tuple #[]) ∧ ModAt B go w' m ∧ Fr W w' (fun k => k = g ∨ k = go)) := by
 cases r with
 | error c => exact .inl ⟨c, rfl, h⟩
 | ok m => exact .inr ⟨m, rfl, h⟩
theorem rd_ne {s : ByteArray} {a : Int} {gi : Nat} {w w1 : World} (h : RdD g s a w) (hf : Fr w w1 (fun k => k = gi)) (hg : g ≠ gi) (h2 : 2 ≤ gi) : RdD g s a w1 := ⟨hf.block h.blk hg, h.lo, h.hi, h.sz, h.two, tabs_fr h.tab hf (fun e => by have : 0 = gi := e; omega) (fun e => by have : 1 = gi := e; omega)⟩
theorem mod_below {m : Mod} (h : ModAt B go W m) (hb : Below W.heap.size W w') : ModAt B go w' m := by
 obtain ⟨v0, v1, v2, v3, v4, v5, v6, v8, v9, v10, hK, h0, h1, h2, h3, h4, h5, h6, h8, h9, h10⟩ := h
 exact ⟨v0, v1, v2, v3, v4, v5, v6, v8, v9, v10, blk_below hK hb, Kd.R_below h0 hb, Kd.R_below h1 hb, Kd.R_below h2 hb, Kd.R_below h3 hb, Kd.R_below h4 hb, Kd.R_below h5 hb, Kd.R_below h6 hb, Kd.R_below h8 hb, Kd.R_below h9 hb, Kd.R_below h10 hb⟩
end
theorem dSec_1 (s : ByteArray) (m : Mod) : dSec s 1 m = secA s (dList s 256 (dFuncType s) 0) fun x => { m with types := x } := by simp [dSec]
set_option maxHeartbeats 4000000 in
set_option maxRecDepth 100000 in
theorem sec_1 {B g go : Nat} {s : ByteArray} {W : World} {m : Mod} (hB : B ≤ W.heap.size) (hne : g ≠ go) (h2 : 2 ≤ go) (h : RdD g s 0 W) (hm : ModAt B go W m) : Calls Tryd.prog 26 #[.pointer (some ⟨g, 0, none⟩), .int .i64 1, .pointer (some ⟨go, 0, none⟩)] W (SecPost B g go W (dSec s 1 m)) := by
 have R0 := am h
 have HB := am hB
 have NE := am hne
 have H2 := am h2
 obtain ⟨v0, v1, v2, v3, v4, v5, v6, v8, v9, v10, hK, h0, h1, h2, h3, h4, h5, h6, h8, h9, h10⟩ := hm
 have K0 := am hK
 have L0 := am h0
 have L1 := am h1
 have L2 := am h2
 have L3 := am h3
 have L4 := am h4
 have L5 := am h5
 have L6 := am h6
 have L8 := am h8
 have L9 := am h9
 have L10 := am h10
 clear hK h0 h1 h2 h3 h4 h5 h6 h8 h9 h10
 clear h hB hne h2
 go_enter Tryd.func26, Tryd.ntmps26
 go_wp2_with (first
  | (go_at_call 36; (with_reducible refine (list_type_c 256 (by decide) (dFuncType s) (fun a W h => type_c h) R0.out).mono ?_); intro e w1 hh; rcases ret_cases hh with ⟨c, hc, rfl, hf⟩ | ⟨xs, a1, v, hx, rfl, hv, hr, hf⟩; (exact ⟨rfl, sec_er (by rw [dSec_1, secA_er hc]) rfl (hf.mono (fun _ hk => .inl hk))⟩); obtain ⟨A, c, rfl⟩ := Kd.R_slice hv; have LN := am (Kd.R_mono hv (fun k hk => Nat.le_trans HB.out hk)); have R1 := am hr; have F1 : Aside0 (Fr W w1 (fun k => k = g ∨ k = go)) := ⟨hf.mono (fun _ hk => .inl hk)⟩; have X1 := am hx; have K1 := am (hf.block K0.out (fun h => NE.out h.symm)); have M0 := am (Kd.R_mono (Kd.R_step (Kd.R_types L0.out R0.out.blk (by decide)) (fun k hk hlt => hf.k.2 k hlt hk.2)) (fun _ hk => hk.1)); have M1 := am (Kd.R_mono (Kd.R_step (Kd.R_types L1.out R0.out.blk (by decide)) (fun k hk hlt => hf.k.2 k hlt hk.2)) (fun _ hk => hk.1)); have M2 := am (Kd.R_mono (Kd.R_step (Kd.R_types L2.out R0.out.blk (by decide)) (fun k hk hlt => hf.k.2 k hlt hk.2)) (fun _ hk => hk.1)); have M3 := am (Kd.R_mono (Kd.R_step (Kd.R_types L3.out R0.out.blk (by decide)) (fun k hk hlt => hf.k.2 k hlt hk.2)) (fun _ hk => hk.1)); have M4 := am (Kd.R_mono (Kd.R_step (Kd.R_types L4.out R0.out.blk (by decide)) (fun k hk hlt => hf.k.2 k hlt hk.2)) (fun _ hk => hk.1)); have M5 := am (Kd.R_mono (Kd.R_step (Kd.R_types L5.out R0.out.blk (by decide)) (fun k hk hlt => hf.k.2 k hlt hk.2)) (fun _ hk => hk.1)); have M6 := am (Kd.R_mono (Kd.R_step (Kd.R_types L6.out R0.out.blk (by decide)) (fun k hk hlt => hf.k.2 k hlt hk.2)) (fun _ hk => hk.1)); have M8 := am (Kd.R_mono (Kd.R_step (Kd.R_types L8.out R0.out.blk (by decide)) (fun k hk hlt => hf.k.2 k hlt hk.2)) (fun _ hk => hk.1)); have M9 := am (Kd.R_mono (Kd.R_step (Kd.R_types L9.out R0.out.blk (by decide)) (fun k hk hlt => hf.k.2 k hlt hk.2)) (fun _ hk => hk.1)); have M10 := am (Kd.R_mono (Kd.R_step (Kd.R_types L10.out R0.out.blk (by decide)) (fun k hk hlt => hf.k.2 k hlt hk.2)) (fun _ hk => hk.1)); clear hh hr hf hx hv K0 R0 L0 L1 L2 L3 L4 L5 L6 L8 L9 L10)
  | ((with_reducible refine gate_store (p := 27) rfl ?_); refine storeCell_event (g := go) (j := 0) (x := .slice A xs.length c) rfl rfl rfl rfl rfl K1.out (by simp) (by kernel_rfl) rfl ?_; intro w2 hA hb ho hs; have R2 := am (rd_ne R1.out (Fr.stored (S := fun k => k = go) hb ho hs rfl) NE.out H2.out); have F2 := am (F1.out.then_ (Fr.stored (S := fun k => k = go) hb ho hs rfl) (fun k hk => .inl (.inr hk))); have N0 := am (Kd.R_mono (Kd.R_step (Kd.R_types M0.out K1.out (by decide)) (fun k hk _ => ho k hk.2)) (fun _ hk => hk.1)); have N1 := am (Kd.R_mono (Kd.R_step (Kd.R_types M1.out K1.out (by decide)) (fun k hk _ => ho k hk.2)) (fun _ hk => hk.1)); have N2 := am (Kd.R_mono (Kd.R_step (Kd.R_types M2.out K1.out (by decide)) (fun k hk _ => ho k hk.2)) (fun _ hk => hk.1)); have N3 := am (Kd.R_mono (Kd.R_step (Kd.R_types M3.out K1.out (by decide)) (fun k hk _ => ho k hk.2)) (fun _ hk => hk.1)); have N4 := am (Kd.R_mono (Kd.R_step (Kd.R_types M4.out K1.out (by decide)) (fun k hk _ => ho k hk.2)) (fun _ hk => hk.1)); have N5 := am (Kd.R_mono (Kd.R_step (Kd.R_types M5.out K1.out (by decide)) (fun k hk _ => ho k hk.2)) (fun _ hk => hk.1)); have N6 := am (Kd.R_mono (Kd.R_step (Kd.R_types M6.out K1.out (by decide)) (fun k hk _ => ho k hk.2)) (fun _ hk => hk.1)); have N8 := am (Kd.R_mono (Kd.R_step (Kd.R_types M8.out K1.out (by decide)) (fun k hk _ => ho k hk.2)) (fun _ hk => hk.1)); have N9 := am (Kd.R_mono (Kd.R_step (Kd.R_types M9.out K1.out (by decide)) (fun k hk _ => ho k hk.2)) (fun _ hk => hk.1)); have N10 := am (Kd.R_mono (Kd.R_step (Kd.R_types M10.out K1.out (by decide)) (fun k hk _ => ho k hk.2)) (fun _ hk => hk.1)); have LN2 := am (Kd.R_mono (Kd.R_step (Kd.R_types LN.out K1.out (by decide)) (fun k hk _ => ho k hk.2)) (fun _ hk => hk.1)); have MO2 : Aside0 (ModAt B go w2 { m with types := xs }) := ⟨_, v1, v2, v3, v4, v5, v6, v8, v9, v10, hA, LN2.out, N1.out, N2.out, N3.out, N4.out, N5.out, N6.out, N8.out, N9.out, N10.out⟩; have c0 : w2.cell? ⟨g, 0, none⟩ = some (.string s) := blk_cell R2.out.blk 0; have c1 : w2.cell? ⟨g, 1, none⟩ = some (.int .i64 a1) := blk_cell R2.out.blk 1; clear hA hb ho hs K1 R1 F1 LN LN2 M0 N0 M1 N1 M2 N2 M3 N3 M4 N4 M5 N5 M6 N6 M8 N8 M9 N9 M10 N10))
 refine start_ (n := 11) (S := fun w' => RdD g s (a1) w' ∧ Fr W w' (fun k => k = g ∨ k = go) ∧ ModAt B go w' { m with types := xs } ∧ w'.cell? ⟨g, 0, none⟩ = some (.string s) ∧ w'.cell? ⟨g, 1, none⟩ = some (.int .i64 (a1))) (ds := []) #[false, false, false, false, false, false, false, false, false, false, false] (by kernel_rfl) rfl rfl ⟨rd_drew R2.out, F2.out.drew, mod_below MO2.out (below_drew (Below.refl _ _)), c0, c1⟩ (fun hHeld => ?_)
 refine pu (i := 0) (N := some 116) (v := ?_) (a' := ?_) rfl rfl (by kernel_rfl) (fun _ _ _ h => h) (.inl ⟨by rfl, ?_⟩) ?_ ?_; rotate_left
 ·intro w'; go_simp; with_reducible rfl
 rotate_left; · simp only [Act.put, List.setIfInBounds_toArray, List.set_cons_zero, List.set_cons_succ, i64_w, i32_w]; rfl
 refine pu (i := 1) (N := some 117) (v := ?_) (a' := ?_) rfl rfl (by kernel_rfl) (fun _ _ _ h => h) (.inl ⟨by rfl, ?_⟩) ?_ ?_; rotate_left
 ·intro w'; go_simp; with_reducible rfl
 rotate_left; · simp only [Act.put, List.setIfInBounds_toArray, List.set_cons_zero, List.set_cons_succ, i64_w, i32_w]; rfl
 refine pu (i := 2) (N := some 118) (v := ?_) (a' := ?_) rfl rfl (by kernel_rfl) (fun _ _ _ h => h) (.inl ⟨by rfl, ?_⟩) ?_ ?_; rotate_left
 ·intro w'; go_simp; with_reducible rfl
 rotate_left; · simp only [Act.put, List.setIfInBounds_toArray, List.set_cons_zero, List.set_cons_succ, i64_w, i32_w]; rfl
 refine pu (i := 4) (N := some 120) (v := ?_) (a' := ?_) rfl rfl (by kernel_rfl) (fun _ _ _ h => h) (.inl ⟨by rfl, ?_⟩) ?_ ?_; rotate_left
 ·intro w'; go_simp; with_reducible rfl
 rotate_left; · simp only [Act.put, List.setIfInBounds_toArray, List.set_cons_zero, List.set_cons_succ, i64_w, i32_w]; rfl
 refine pu (i := 5) (N := some 121) (v := ?_) (a' := ?_) rfl rfl (by kernel_rfl) (fun _ _ _ h => h) (.inl ⟨by rfl, ?_⟩) ?_ ?_; rotate_left
 ·intro w'; go_simp; with_reducible rfl
 rotate_left; · simp only [Act.put, List.setIfInBounds_toArray, List.set_cons_zero, List.set_cons_succ, i64_w, i32_w]; rfl
 refine pu (i := 6) (N := some 122) (v := ?_) (a' := ?_) rfl rfl (by kernel_rfl) (fun _ _ _ h => h) (.inl ⟨by rfl, ?_⟩) ?_ ?_; rotate_left
 ·intro w'; go_simp; with_reducible rfl
 rotate_left; · simp only [Act.put, List.setIfInBounds_toArray, List.set_cons_zero, List.set_cons_succ, i64_w, i32_w]; rfl
 refine tu (i := 3) (N := some 119) (v := ?_) (a' := ?_) rfl rfl (by kernel_rfl) (fun _ _ _ h => h) (.inl ⟨by rfl, ?_⟩) hHeld ?_ ?_; rotate_left
 ·rintro w' ⟨s0, s1, s2, s3, s4⟩; go_simp; with_reducible rfl
 rotate_left; · simp only [Act.put, List.setIfInBounds_toArray, List.set_cons_zero, List.set_cons_succ, i64_w, i32_w]; rfl
 refine tu (i := 7) (N := some 123) (v := ?_) (a' := ?_) rfl rfl (by kernel_rfl) (fun _ _ _ h => h) (.inl ⟨by rfl, ?_⟩) hHeld ?_ ?_; rotate_left
 ·rintro w' ⟨s0, s1, s2, s3, s4⟩; go_simp; with_reducible rfl
 rotate_left; · simp only [Act.put, List.setIfInBounds_toArray, List.set_cons_zero, List.set_cons_succ, i64_w, i32_w]; rfl
 refine pu (i := 8) (N := some 124) (v := ?_) (a' := ?_) rfl rfl (by kernel_rfl) (fun _ _ _ h => h) (.inl ⟨by rfl, ?_⟩) ?_ ?_; rotate_left
 ·intro w'; go_simp; with_reducible rfl
 rotate_left; · simp only [Act.put, List.setIfInBounds_toArray, List.set_cons_zero, List.set_cons_succ, i64_w, i32_w]; rfl
 refine pu (i := 9) (N := some 125) (v := ?_) (a' := ?_) rfl rfl (by kernel_rfl) (fun _ _ _ h => h) (.inl ⟨by rfl, ?_⟩) ?_ ?_; rotate_left
 ·intro w'; go_simp; with_reducible rfl
 rotate_left; · simp only [Act.put, List.setIfInBounds_toArray, List.set_cons_zero, List.set_cons_succ, i64_w, i32_w]; rfl
 refine one_ (i := 10) (N := some 126) #[true, true, true, true, true, true, true, true, true, true, true] rfl rfl (by kernel_rfl) (by decide) (fun K hK => ?_)
 obtain ⟨r0, r1, r2, c0, c1⟩ := hHeld
 refine goesP_ Tryd.func23 (by kernel_rfl) rfl #[.bool ((a1) == (s.size : Int)), .int .i64 1504] (by rfl) rfl rfl (by simp only [List.map_toArray, List.map_cons, List.map_nil]; rfl) ?_
 with_reducible refine (need_c _ _ _).mono ?_
 rintro e w3 ⟨rfl, (⟨hb, rfl⟩ | ⟨hb, rfl⟩)⟩
 ·exact .inl ⟨_, rfl, rfl, sec_er (by rw [dSec_1, secA_ok X1.out, if_neg (ne_of_beq_false hb)]) rfl r1⟩
 refine .inr ⟨_, rfl, ?_⟩
 have Q0 := am r0
 have Q1 := am r1
 have Q2 := am r2
 have Q3 := am (eq_of_beq hb)
 clear r0 r1 r2
 refine hK.out _ _ ⟨Q0.out, Q1.out, Q2.out, c0, c1⟩ (fun hHeld => ?_)
 clear hK K
 refine norm_ (a' := ?_) ?_ ?_
 rotate_left
 ·show Act.put _ (some 126) _ = _
  simp only [Act.put, List.setIfInBounds_toArray, List.set_cons_zero, List.set_cons_succ, i64_w, i32_w]
  rfl
 refine done_ (by kernel_rfl) ?_
 go_wp2
 go_end0
 exact sec_ok (by rw [dSec_1, secA_ok X1.out, if_pos Q3.out]) rfl Q2.out Q1.out
theorem dSec_2 (s : ByteArray) (m : Mod) : dSec s 2 m = secA s (dList s 1024 (dImport s) 0) fun x => { m with imports := x } := by simp [dSec]
set_option maxHeartbeats 4000000 in
set_option maxRecDepth 100000 in
theorem sec_2 {B g go : Nat} {s : ByteArray} {W : World} {m : Mod} (hB : B ≤ W.heap.size) (hne : g ≠ go) (h2 : 2 ≤ go) (h : RdD g s 0 W) (hm : ModAt B go W m) : Calls Tryd.prog 26 #[.pointer (some ⟨g, 0, none⟩), .int .i64 2, .pointer (some ⟨go, 0, none⟩)] W (SecPost B g go W (dSec s 2 m)) := by
 have R0 := am h
 have HB := am hB
 have NE := am hne
 have H2 := am h2
 obtain ⟨v0, v1, v2, v3, v4, v5, v6, v8, v9, v10, hK, h0, h1, h2, h3, h4, h5, h6, h8, h9, h10⟩ := hm
 have K0 := am hK
 have L0 := am h0
 have L1 := am h1
 have L2 := am h2
 have L3 := am h3
 have L4 := am h4
 have L5 := am h5
 have L6 := am h6
 have L8 := am h8
 have L9 := am h9
 have L10 := am h10
 clear hK h0 h1 h2 h3 h4 h5 h6 h8 h9 h10
 clear h hB hne h2
 go_enter Tryd.func26, Tryd.ntmps26
 go_wp2_with (first
  | (go_at_call 38; (with_reducible refine (list_import_c 1024 (by decide) (dImport s) (fun a W h => import_c h) R0.out).mono ?_); intro e w1 hh; rcases ret_cases hh with ⟨c, hc, rfl, hf⟩ | ⟨xs, a1, v, hx, rfl, hv, hr, hf⟩; (exact ⟨rfl, sec_er (by rw [dSec_2, secA_er hc]) rfl (hf.mono (fun _ hk => .inl hk))⟩); obtain ⟨A, c, rfl⟩ := Kd.R_slice hv; have LN := am (Kd.R_mono hv (fun k hk => Nat.le_trans HB.out hk)); have R1 := am hr; have F1 : Aside0 (Fr W w1 (fun k => k = g ∨ k = go)) := ⟨hf.mono (fun _ hk => .inl hk)⟩; have X1 := am hx; have K1 := am (hf.block K0.out (fun h => NE.out h.symm)); have M0 := am (Kd.R_mono (Kd.R_step (Kd.R_types L0.out R0.out.blk (by decide)) (fun k hk hlt => hf.k.2 k hlt hk.2)) (fun _ hk => hk.1)); have M1 := am (Kd.R_mono (Kd.R_step (Kd.R_types L1.out R0.out.blk (by decide)) (fun k hk hlt => hf.k.2 k hlt hk.2)) (fun _ hk => hk.1)); have M2 := am (Kd.R_mono (Kd.R_step (Kd.R_types L2.out R0.out.blk (by decide)) (fun k hk hlt => hf.k.2 k hlt hk.2)) (fun _ hk => hk.1)); have M3 := am (Kd.R_mono (Kd.R_step (Kd.R_types L3.out R0.out.blk (by decide)) (fun k hk hlt => hf.k.2 k hlt hk.2)) (fun _ hk => hk.1)); have M4 := am (Kd.R_mono (Kd.R_step (Kd.R_types L4.out R0.out.blk (by decide)) (fun k hk hlt => hf.k.2 k hlt hk.2)) (fun _ hk => hk.1)); have M5 := am (Kd.R_mono (Kd.R_step (Kd.R_types L5.out R0.out.blk (by decide)) (fun k hk hlt => hf.k.2 k hlt hk.2)) (fun _ hk => hk.1)); have M6 := am (Kd.R_mono (Kd.R_step (Kd.R_types L6.out R0.out.blk (by decide)) (fun k hk hlt => hf.k.2 k hlt hk.2)) (fun _ hk => hk.1)); have M8 := am (Kd.R_mono (Kd.R_step (Kd.R_types L8.out R0.out.blk (by decide)) (fun k hk hlt => hf.k.2 k hlt hk.2)) (fun _ hk => hk.1)); have M9 := am (Kd.R_mono (Kd.R_step (Kd.R_types L9.out R0.out.blk (by decide)) (fun k hk hlt => hf.k.2 k hlt hk.2)) (fun _ hk => hk.1)); have M10 := am (Kd.R_mono (Kd.R_step (Kd.R_types L10.out R0.out.blk (by decide)) (fun k hk hlt => hf.k.2 k hlt hk.2)) (fun _ hk => hk.1)); clear hh hr hf hx hv K0 R0 L0 L1 L2 L3 L4 L5 L6 L8 L9 L10)
  | ((with_reducible refine gate_store (p := 36) rfl ?_); refine storeCell_event (g := go) (j := 1) (x := .slice A xs.length c) rfl rfl rfl rfl rfl K1.out (by simp) (by kernel_rfl) rfl ?_; intro w2 hA hb ho hs; have R2 := am (rd_ne R1.out (Fr.stored (S := fun k => k = go) hb ho hs rfl) NE.out H2.out); have F2 := am (F1.out.then_ (Fr.stored (S := fun k => k = go) hb ho hs rfl) (fun k hk => .inl (.inr hk))); have N0 := am (Kd.R_mono (Kd.R_step (Kd.R_types M0.out K1.out (by decide)) (fun k hk _ => ho k hk.2)) (fun _ hk => hk.1)); have N1 := am (Kd.R_mono (Kd.R_step (Kd.R_types M1.out K1.out (by decide)) (fun k hk _ => ho k hk.2)) (fun _ hk => hk.1)); have N2 := am (Kd.R_mono (Kd.R_step (Kd.R_types M2.out K1.out (by decide)) (fun k hk _ => ho k hk.2)) (fun _ hk => hk.1)); have N3 := am (Kd.R_mono (Kd.R_step (Kd.R_types M3.out K1.out (by decide)) (fun k hk _ => ho k hk.2)) (fun _ hk => hk.1)); have N4 := am (Kd.R_mono (Kd.R_step (Kd.R_types M4.out K1.out (by decide)) (fun k hk _ => ho k hk.2)) (fun _ hk => hk.1)); have N5 := am (Kd.R_mono (Kd.R_step (Kd.R_types M5.out K1.out (by decide)) (fun k hk _ => ho k hk.2)) (fun _ hk => hk.1)); have N6 := am (Kd.R_mono (Kd.R_step (Kd.R_types M6.out K1.out (by decide)) (fun k hk _ => ho k hk.2)) (fun _ hk => hk.1)); have N8 := am (Kd.R_mono (Kd.R_step (Kd.R_types M8.out K1.out (by decide)) (fun k hk _ => ho k hk.2)) (fun _ hk => hk.1)); have N9 := am (Kd.R_mono (Kd.R_step (Kd.R_types M9.out K1.out (by decide)) (fun k hk _ => ho k hk.2)) (fun _ hk => hk.1)); have N10 := am (Kd.R_mono (Kd.R_step (Kd.R_types M10.out K1.out (by decide)) (fun k hk _ => ho k hk.2)) (fun _ hk => hk.1)); have LN2 := am (Kd.R_mono (Kd.R_step (Kd.R_types LN.out K1.out (by decide)) (fun k hk _ => ho k hk.2)) (fun _ hk => hk.1)); have MO2 : Aside0 (ModAt B go w2 { m with imports := xs }) := ⟨v0, _, v2, v3, v4, v5, v6, v8, v9, v10, hA, N0.out, LN2.out, N2.out, N3.out, N4.out, N5.out, N6.out, N8.out, N9.out, N10.out⟩; have c0 : w2.cell? ⟨g, 0, none⟩ = some (.string s) := blk_cell R2.out.blk 0; have c1 : w2.cell? ⟨g, 1, none⟩ = some (.int .i64 a1) := blk_cell R2.out.blk 1; clear hA hb ho hs K1 R1 F1 LN LN2 M0 N0 M1 N1 M2 N2 M3 N3 M4 N4 M5 N5 M6 N6 M8 N8 M9 N9 M10 N10))
 refine start_ (n := 11) (S := fun w' => RdD g s (a1) w' ∧ Fr W w' (fun k => k = g ∨ k = go) ∧ ModAt B go w' { m with imports := xs } ∧ w'.cell? ⟨g, 0, none⟩ = some (.string s) ∧ w'.cell? ⟨g, 1, none⟩ = some (.int .i64 (a1))) (ds := []) #[false, false, false, false, false, false, false, false, false, false, false] (by kernel_rfl) rfl rfl ⟨rd_drew R2.out, F2.out.drew, mod_below MO2.out (below_drew (Below.refl _ _)), c0, c1⟩ (fun hHeld => ?_)
 refine pu (i := 0) (N := some 116) (v := ?_) (a' := ?_) rfl rfl (by kernel_rfl) (fun _ _ _ h => h) (.inl ⟨by rfl, ?_⟩) ?_ ?_; rotate_left
 ·intro w'; go_simp; with_reducible rfl
 rotate_left; · simp only [Act.put, List.setIfInBounds_toArray, List.set_cons_zero, List.set_cons_succ, i64_w, i32_w]; rfl
 refine pu (i := 1) (N := some 117) (v := ?_) (a' := ?_) rfl rfl (by kernel_rfl) (fun _ _ _ h => h) (.inl ⟨by rfl, ?_⟩) ?_ ?_; rotate_left
 ·intro w'; go_simp; with_reducible rfl
 rotate_left; · simp only [Act.put, List.setIfInBounds_toArray, List.set_cons_zero, List.set_cons_succ, i64_w, i32_w]; rfl
 refine pu (i := 2) (N := some 118) (v := ?_) (a' := ?_) rfl rfl (by kernel_rfl) (fun _ _ _ h => h) (.inl ⟨by rfl, ?_⟩) ?_ ?_; rotate_left
 ·intro w'; go_simp; with_reducible rfl
 rotate_left; · simp only [Act.put, List.setIfInBounds_toArray, List.set_cons_zero, List.set_cons_succ, i64_w, i32_w]; rfl
 refine pu (i := 4) (N := some 120) (v := ?_) (a' := ?_) rfl rfl (by kernel_rfl) (fun _ _ _ h => h) (.inl ⟨by rfl, ?_⟩) ?_ ?_; rotate_left
 ·intro w'; go_simp; with_reducible rfl
 rotate_left; · simp only [Act.put, List.setIfInBounds_toArray, List.set_cons_zero, List.set_cons_succ, i64_w, i32_w]; rfl
 refine pu (i := 5) (N := some 121) (v := ?_) (a' := ?_) rfl rfl (by kernel_rfl) (fun _ _ _ h => h) (.inl ⟨by rfl, ?_⟩) ?_ ?_; rotate_left
 ·intro w'; go_simp; with_reducible rfl
 rotate_left; · simp only [Act.put, List.setIfInBounds_toArray, List.set_cons_zero, List.set_cons_succ, i64_w, i32_w]; rfl
 refine pu (i := 6) (N := some 122) (v := ?_) (a' := ?_) rfl rfl (by kernel_rfl) (fun _ _ _ h => h) (.inl ⟨by rfl, ?_⟩) ?_ ?_; rotate_left
 ·intro w'; go_simp; with_reducible rfl
 rotate_left; · simp only [Act.put, List.setIfInBounds_toArray, List.set_cons_zero, List.set_cons_succ, i64_w, i32_w]; rfl
 refine tu (i := 3) (N := some 119) (v := ?_) (a' := ?_) rfl rfl (by kernel_rfl) (fun _ _ _ h => h) (.inl ⟨by rfl, ?_⟩) hHeld ?_ ?_; rotate_left
 ·rintro w' ⟨s0, s1, s2, s3, s4⟩; go_simp; with_reducible rfl
 rotate_left; · simp only [Act.put, List.setIfInBounds_toArray, List.set_cons_zero, List.set_cons_succ, i64_w, i32_w]; rfl
 refine tu (i := 7) (N := some 123) (v := ?_) (a' := ?_) rfl rfl (by kernel_rfl) (fun _ _ _ h => h) (.inl ⟨by rfl, ?_⟩) hHeld ?_ ?_; rotate_left
 ·rintro w' ⟨s0, s1, s2, s3, s4⟩; go_simp; with_reducible rfl
 rotate_left; · simp only [Act.put, List.setIfInBounds_toArray, List.set_cons_zero, List.set_cons_succ, i64_w, i32_w]; rfl
 refine pu (i := 8) (N := some 124) (v := ?_) (a' := ?_) rfl rfl (by kernel_rfl) (fun _ _ _ h => h) (.inl ⟨by rfl, ?_⟩) ?_ ?_; rotate_left
 ·intro w'; go_simp; with_reducible rfl
 rotate_left; · simp only [Act.put, List.setIfInBounds_toArray, List.set_cons_zero, List.set_cons_succ, i64_w, i32_w]; rfl
 refine pu (i := 9) (N := some 125) (v := ?_) (a' := ?_) rfl rfl (by kernel_rfl) (fun _ _ _ h => h) (.inl ⟨by rfl, ?_⟩) ?_ ?_; rotate_left
 ·intro w'; go_simp; with_reducible rfl
 rotate_left; · simp only [Act.put, List.setIfInBounds_toArray, List.set_cons_zero, List.set_cons_succ, i64_w, i32_w]; rfl
 refine one_ (i := 10) (N := some 126) #[true, true, true, true, true, true, true, true, true, true, true] rfl rfl (by kernel_rfl) (by decide) (fun K hK => ?_)
 obtain ⟨r0, r1, r2, c0, c1⟩ := hHeld
 refine goesP_ Tryd.func23 (by kernel_rfl) rfl #[.bool ((a1) == (s.size : Int)), .int .i64 1504] (by rfl) rfl rfl (by simp only [List.map_toArray, List.map_cons, List.map_nil]; rfl) ?_
 with_reducible refine (need_c _ _ _).mono ?_
 rintro e w3 ⟨rfl, (⟨hb, rfl⟩ | ⟨hb, rfl⟩)⟩
 ·exact .inl ⟨_, rfl, rfl, sec_er (by rw [dSec_2, secA_ok X1.out, if_neg (ne_of_beq_false hb)]) rfl r1⟩
 refine .inr ⟨_, rfl, ?_⟩
 have Q0 := am r0
 have Q1 := am r1
 have Q2 := am r2
 have Q3 := am (eq_of_beq hb)
 clear r0 r1 r2
 refine hK.out _ _ ⟨Q0.out, Q1.out, Q2.out, c0, c1⟩ (fun hHeld => ?_)
 clear hK K
 refine norm_ (a' := ?_) ?_ ?_
 rotate_left
 ·show Act.put _ (some 126) _ = _
  simp only [Act.put, List.setIfInBounds_toArray, List.set_cons_zero, List.set_cons_succ, i64_w, i32_w]
  rfl
 refine done_ (by kernel_rfl) ?_
 go_wp2
 go_end0
 exact sec_ok (by rw [dSec_2, secA_ok X1.out, if_pos Q3.out]) rfl Q2.out Q1.out
theorem dSec_3 (s : ByteArray) (m : Mod) : dSec s 3 m = secA s (dList s 256 (dNum s) 0) fun x => { m with funcs := x } := by simp [dSec]
set_option maxHeartbeats 4000000 in
set_option maxRecDepth 100000 in
theorem sec_3 {B g go : Nat} {s : ByteArray} {W : World} {m : Mod} (hB : B ≤ W.heap.size) (hne : g ≠ go) (h2 : 2 ≤ go) (h : RdD g s 0 W) (hm : ModAt B go W m) : Calls Tryd.prog 26 #[.pointer (some ⟨g, 0, none⟩), .int .i64 3, .pointer (some ⟨go, 0, none⟩)] W (SecPost B g go W (dSec s 3 m)) := by
 have R0 := am h
 have HB := am hB
 have NE := am hne
 have H2 := am h2
 obtain ⟨v0, v1, v2, v3, v4, v5, v6, v8, v9, v10, hK, h0, h1, h2, h3, h4, h5, h6, h8, h9, h10⟩ := hm
 have K0 := am hK
 have L0 := am h0
 have L1 := am h1
 have L2 := am h2
 have L3 := am h3
 have L4 := am h4
 have L5 := am h5
 have L6 := am h6
 have L8 := am h8
 have L9 := am h9
 have L10 := am h10
 clear hK h0 h1 h2 h3 h4 h5 h6 h8 h9 h10
 clear h hB hne h2
 go_enter Tryd.func26, Tryd.ntmps26
 go_wp2_with (first
  | (go_at_call 40; (with_reducible refine (list_number_c 256 (by decide) (dNum s) (fun a W h => number_c h) R0.out).mono ?_); intro e w1 hh; rcases ret_cases hh with ⟨c, hc, rfl, hf⟩ | ⟨xs, a1, v, hx, rfl, hv, hr, hf⟩; (exact ⟨rfl, sec_er (by rw [dSec_3, secA_er hc]) rfl (hf.mono (fun _ hk => .inl hk))⟩); obtain ⟨A, c, rfl⟩ := Kd.R_slice hv; have LN := am (Kd.R_mono hv (fun k hk => Nat.le_trans HB.out hk)); have R1 := am hr; have F1 : Aside0 (Fr W w1 (fun k => k = g ∨ k = go)) := ⟨hf.mono (fun _ hk => .inl hk)⟩; have X1 := am hx; have K1 := am (hf.block K0.out (fun h => NE.out h.symm)); have M0 := am (Kd.R_mono (Kd.R_step (Kd.R_types L0.out R0.out.blk (by decide)) (fun k hk hlt => hf.k.2 k hlt hk.2)) (fun _ hk => hk.1)); have M1 := am (Kd.R_mono (Kd.R_step (Kd.R_types L1.out R0.out.blk (by decide)) (fun k hk hlt => hf.k.2 k hlt hk.2)) (fun _ hk => hk.1)); have M2 := am (Kd.R_mono (Kd.R_step (Kd.R_types L2.out R0.out.blk (by decide)) (fun k hk hlt => hf.k.2 k hlt hk.2)) (fun _ hk => hk.1)); have M3 := am (Kd.R_mono (Kd.R_step (Kd.R_types L3.out R0.out.blk (by decide)) (fun k hk hlt => hf.k.2 k hlt hk.2)) (fun _ hk => hk.1)); have M4 := am (Kd.R_mono (Kd.R_step (Kd.R_types L4.out R0.out.blk (by decide)) (fun k hk hlt => hf.k.2 k hlt hk.2)) (fun _ hk => hk.1)); have M5 := am (Kd.R_mono (Kd.R_step (Kd.R_types L5.out R0.out.blk (by decide)) (fun k hk hlt => hf.k.2 k hlt hk.2)) (fun _ hk => hk.1)); have M6 := am (Kd.R_mono (Kd.R_step (Kd.R_types L6.out R0.out.blk (by decide)) (fun k hk hlt => hf.k.2 k hlt hk.2)) (fun _ hk => hk.1)); have M8 := am (Kd.R_mono (Kd.R_step (Kd.R_types L8.out R0.out.blk (by decide)) (fun k hk hlt => hf.k.2 k hlt hk.2)) (fun _ hk => hk.1)); have M9 := am (Kd.R_mono (Kd.R_step (Kd.R_types L9.out R0.out.blk (by decide)) (fun k hk hlt => hf.k.2 k hlt hk.2)) (fun _ hk => hk.1)); have M10 := am (Kd.R_mono (Kd.R_step (Kd.R_types L10.out R0.out.blk (by decide)) (fun k hk hlt => hf.k.2 k hlt hk.2)) (fun _ hk => hk.1)); clear hh hr hf hx hv K0 R0 L0 L1 L2 L3 L4 L5 L6 L8 L9 L10)
  | ((with_reducible refine gate_store (p := 45) rfl ?_); refine storeCell_event (g := go) (j := 2) (x := .slice A xs.length c) rfl rfl rfl rfl rfl K1.out (by simp) (by kernel_rfl) rfl ?_; intro w2 hA hb ho hs; have R2 := am (rd_ne R1.out (Fr.stored (S := fun k => k = go) hb ho hs rfl) NE.out H2.out); have F2 := am (F1.out.then_ (Fr.stored (S := fun k => k = go) hb ho hs rfl) (fun k hk => .inl (.inr hk))); have N0 := am (Kd.R_mono (Kd.R_step (Kd.R_types M0.out K1.out (by decide)) (fun k hk _ => ho k hk.2)) (fun _ hk => hk.1)); have N1 := am (Kd.R_mono (Kd.R_step (Kd.R_types M1.out K1.out (by decide)) (fun k hk _ => ho k hk.2)) (fun _ hk => hk.1)); have N2 := am (Kd.R_mono (Kd.R_step (Kd.R_types M2.out K1.out (by decide)) (fun k hk _ => ho k hk.2)) (fun _ hk => hk.1)); have N3 := am (Kd.R_mono (Kd.R_step (Kd.R_types M3.out K1.out (by decide)) (fun k hk _ => ho k hk.2)) (fun _ hk => hk.1)); have N4 := am (Kd.R_mono (Kd.R_step (Kd.R_types M4.out K1.out (by decide)) (fun k hk _ => ho k hk.2)) (fun _ hk => hk.1)); have N5 := am (Kd.R_mono (Kd.R_step (Kd.R_types M5.out K1.out (by decide)) (fun k hk _ => ho k hk.2)) (fun _ hk => hk.1)); have N6 := am (Kd.R_mono (Kd.R_step (Kd.R_types M6.out K1.out (by decide)) (fun k hk _ => ho k hk.2)) (fun _ hk => hk.1)); have N8 := am (Kd.R_mono (Kd.R_step (Kd.R_types M8.out K1.out (by decide)) (fun k hk _ => ho k hk.2)) (fun _ hk => hk.1)); have N9 := am (Kd.R_mono (Kd.R_step (Kd.R_types M9.out K1.out (by decide)) (fun k hk _ => ho k hk.2)) (fun _ hk => hk.1)); have N10 := am (Kd.R_mono (Kd.R_step (Kd.R_types M10.out K1.out (by decide)) (fun k hk _ => ho k hk.2)) (fun _ hk => hk.1)); have LN2 := am (Kd.R_mono (Kd.R_step (Kd.R_types LN.out K1.out (by decide)) (fun k hk _ => ho k hk.2)) (fun _ hk => hk.1)); have MO2 : Aside0 (ModAt B go w2 { m with funcs := xs }) := ⟨v0, v1, _, v3, v4, v5, v6, v8, v9, v10, hA, N0.out, N1.out, LN2.out, N3.out, N4.out, N5.out, N6.out, N8.out, N9.out, N10.out⟩; have c0 : w2.cell? ⟨g, 0, none⟩ = some (.string s) := blk_cell R2.out.blk 0; have c1 : w2.cell? ⟨g, 1, none⟩ = some (.int .i64 a1) := blk_cell R2.out.blk 1; clear hA hb ho hs K1 R1 F1 LN LN2 M0 N0 M1 N1 M2 N2 M3 N3 M4 N4 M5 N5 M6 N6 M8 N8 M9 N9 M10 N10))
 refine start_ (n := 11) (S := fun w' => RdD g s (a1) w' ∧ Fr W w' (fun k => k = g ∨ k = go) ∧ ModAt B go w' { m with funcs := xs } ∧ w'.cell? ⟨g, 0, none⟩ = some (.string s) ∧ w'.cell? ⟨g, 1, none⟩ = some (.int .i64 (a1))) (ds := []) #[false, false, false, false, false, false, false, false, false, false, false] (by kernel_rfl) rfl rfl ⟨rd_drew R2.out, F2.out.drew, mod_below MO2.out (below_drew (Below.refl _ _)), c0, c1⟩ (fun hHeld => ?_)
 refine pu (i := 0) (N := some 116) (v := ?_) (a' := ?_) rfl rfl (by kernel_rfl) (fun _ _ _ h => h) (.inl ⟨by rfl, ?_⟩) ?_ ?_; rotate_left
 ·intro w'; go_simp; with_reducible rfl
 rotate_left; · simp only [Act.put, List.setIfInBounds_toArray, List.set_cons_zero, List.set_cons_succ, i64_w, i32_w]; rfl
 refine pu (i := 1) (N := some 117) (v := ?_) (a' := ?_) rfl rfl (by kernel_rfl) (fun _ _ _ h => h) (.inl ⟨by rfl, ?_⟩) ?_ ?_; rotate_left
 ·intro w'; go_simp; with_reducible rfl
 rotate_left; · simp only [Act.put, List.setIfInBounds_toArray, List.set_cons_zero, List.set_cons_succ, i64_w, i32_w]; rfl
 refine pu (i := 2) (N := some 118) (v := ?_) (a' := ?_) rfl rfl (by kernel_rfl) (fun _ _ _ h => h) (.inl ⟨by rfl, ?_⟩) ?_ ?_; rotate_left
 ·intro w'; go_simp; with_reducible rfl
 rotate_left; · simp only [Act.put, List.setIfInBounds_toArray, List.set_cons_zero, List.set_cons_succ, i64_w, i32_w]; rfl
 refine pu (i := 4) (N := some 120) (v := ?_) (a' := ?_) rfl rfl (by kernel_rfl) (fun _ _ _ h => h) (.inl ⟨by rfl, ?_⟩) ?_ ?_; rotate_left
 ·intro w'; go_simp; with_reducible rfl
 rotate_left; · simp only [Act.put, List.setIfInBounds_toArray, List.set_cons_zero, List.set_cons_succ, i64_w, i32_w]; rfl
 refine pu (i := 5) (N := some 121) (v := ?_) (a' := ?_) rfl rfl (by kernel_rfl) (fun _ _ _ h => h) (.inl ⟨by rfl, ?_⟩) ?_ ?_; rotate_left
 ·intro w'; go_simp; with_reducible rfl
 rotate_left; · simp only [Act.put, List.setIfInBounds_toArray, List.set_cons_zero, List.set_cons_succ, i64_w, i32_w]; rfl
 refine pu (i := 6) (N := some 122) (v := ?_) (a' := ?_) rfl rfl (by kernel_rfl) (fun _ _ _ h => h) (.inl ⟨by rfl, ?_⟩) ?_ ?_; rotate_left
 ·intro w'; go_simp; with_reducible rfl
 rotate_left; · simp only [Act.put, List.setIfInBounds_toArray, List.set_cons_zero, List.set_cons_succ, i64_w, i32_w]; rfl
 refine tu (i := 3) (N := some 119) (v := ?_) (a' := ?_) rfl rfl (by kernel_rfl) (fun _ _ _ h => h) (.inl ⟨by rfl, ?_⟩) hHeld ?_ ?_; rotate_left
 ·rintro w' ⟨s0, s1, s2, s3, s4⟩; go_simp; with_reducible rfl
 rotate_left; · simp only [Act.put, List.setIfInBounds_toArray, List.set_cons_zero, List.set_cons_succ, i64_w, i32_w]; rfl
 refine tu (i := 7) (N := some 123) (v := ?_) (a' := ?_) rfl rfl (by kernel_rfl) (fun _ _ _ h => h) (.inl ⟨by rfl, ?_⟩) hHeld ?_ ?_; rotate_left
 ·rintro w' ⟨s0, s1, s2, s3, s4⟩; go_simp; with_reducible rfl
 rotate_left; · simp only [Act.put, List.setIfInBounds_toArray, List.set_cons_zero, List.set_cons_succ, i64_w, i32_w]; rfl
 refine pu (i := 8) (N := some 124) (v := ?_) (a' := ?_) rfl rfl (by kernel_rfl) (fun _ _ _ h => h) (.inl ⟨by rfl, ?_⟩) ?_ ?_; rotate_left
 ·intro w'; go_simp; with_reducible rfl
 rotate_left; · simp only [Act.put, List.setIfInBounds_toArray, List.set_cons_zero, List.set_cons_succ, i64_w, i32_w]; rfl
 refine pu (i := 9) (N := some 125) (v := ?_) (a' := ?_) rfl rfl (by kernel_rfl) (fun _ _ _ h => h) (.inl ⟨by rfl, ?_⟩) ?_ ?_; rotate_left
 ·intro w'; go_simp; with_reducible rfl
 rotate_left; · simp only [Act.put, List.setIfInBounds_toArray, List.set_cons_zero, List.set_cons_succ, i64_w, i32_w]; rfl
 refine one_ (i := 10) (N := some 126) #[true, true, true, true, true, true, true, true, true, true, true] rfl rfl (by kernel_rfl) (by decide) (fun K hK => ?_)
 obtain ⟨r0, r1, r2, c0, c1⟩ := hHeld
 refine goesP_ Tryd.func23 (by kernel_rfl) rfl #[.bool ((a1) == (s.size : Int)), .int .i64 1504] (by rfl) rfl rfl (by simp only [List.map_toArray, List.map_cons, List.map_nil]; rfl) ?_
 with_reducible refine (need_c _ _ _).mono ?_
 rintro e w3 ⟨rfl, (⟨hb, rfl⟩ | ⟨hb, rfl⟩)⟩
 ·exact .inl ⟨_, rfl, rfl, sec_er (by rw [dSec_3, secA_ok X1.out, if_neg (ne_of_beq_false hb)]) rfl r1⟩
 refine .inr ⟨_, rfl, ?_⟩
 have Q0 := am r0
 have Q1 := am r1
 have Q2 := am r2
 have Q3 := am (eq_of_beq hb)
 clear r0 r1 r2
 refine hK.out _ _ ⟨Q0.out, Q1.out, Q2.out, c0, c1⟩ (fun hHeld => ?_)
 clear hK K
 refine norm_ (a' := ?_) ?_ ?_
 rotate_left
 ·show Act.put _ (some 126) _ = _
  simp only [Act.put, List.setIfInBounds_toArray, List.set_cons_zero, List.set_cons_succ, i64_w, i32_w]
  rfl
 refine done_ (by kernel_rfl) ?_
 go_wp2
 go_end0
 exact sec_ok (by rw [dSec_3, secA_ok X1.out, if_pos Q3.out]) rfl Q2.out Q1.out
theorem dSec_4 (s : ByteArray) (m : Mod) : dSec s 4 m = secA s (dList s 1024 (dTable s) 0) fun x => { m with tables := x } := by simp [dSec]
set_option maxHeartbeats 4000000 in
set_option maxRecDepth 100000 in
theorem sec_4 {B g go : Nat} {s : ByteArray} {W : World} {m : Mod} (hB : B ≤ W.heap.size) (hne : g ≠ go) (h2 : 2 ≤ go) (h : RdD g s 0 W) (hm : ModAt B go W m) : Calls Tryd.prog 26 #[.pointer (some ⟨g, 0, none⟩), .int .i64 4, .pointer (some ⟨go, 0, none⟩)] W (SecPost B g go W (dSec s 4 m)) := by
 have R0 := am h
 have HB := am hB
 have NE := am hne
 have H2 := am h2
 obtain ⟨v0, v1, v2, v3, v4, v5, v6, v8, v9, v10, hK, h0, h1, h2, h3, h4, h5, h6, h8, h9, h10⟩ := hm
 have K0 := am hK
 have L0 := am h0
 have L1 := am h1
 have L2 := am h2
 have L3 := am h3
 have L4 := am h4
 have L5 := am h5
 have L6 := am h6
 have L8 := am h8
 have L9 := am h9
 have L10 := am h10
 clear hK h0 h1 h2 h3 h4 h5 h6 h8 h9 h10
 clear h hB hne h2
 go_enter Tryd.func26, Tryd.ntmps26
 go_wp2_with (first
  | (go_at_call 42; (with_reducible refine (list_table_c 1024 (by decide) (dTable s) (fun a W h => table_c h) R0.out).mono ?_); intro e w1 hh; rcases ret_cases hh with ⟨c, hc, rfl, hf⟩ | ⟨xs, a1, v, hx, rfl, hv, hr, hf⟩; (exact ⟨rfl, sec_er (by rw [dSec_4, secA_er hc]) rfl (hf.mono (fun _ hk => .inl hk))⟩); obtain ⟨A, c, rfl⟩ := Kd.R_slice hv; have LN := am (Kd.R_mono hv (fun k hk => Nat.le_trans HB.out hk)); have R1 := am hr; have F1 : Aside0 (Fr W w1 (fun k => k = g ∨ k = go)) := ⟨hf.mono (fun _ hk => .inl hk)⟩; have X1 := am hx; have K1 := am (hf.block K0.out (fun h => NE.out h.symm)); have M0 := am (Kd.R_mono (Kd.R_step (Kd.R_types L0.out R0.out.blk (by decide)) (fun k hk hlt => hf.k.2 k hlt hk.2)) (fun _ hk => hk.1)); have M1 := am (Kd.R_mono (Kd.R_step (Kd.R_types L1.out R0.out.blk (by decide)) (fun k hk hlt => hf.k.2 k hlt hk.2)) (fun _ hk => hk.1)); have M2 := am (Kd.R_mono (Kd.R_step (Kd.R_types L2.out R0.out.blk (by decide)) (fun k hk hlt => hf.k.2 k hlt hk.2)) (fun _ hk => hk.1)); have M3 := am (Kd.R_mono (Kd.R_step (Kd.R_types L3.out R0.out.blk (by decide)) (fun k hk hlt => hf.k.2 k hlt hk.2)) (fun _ hk => hk.1)); have M4 := am (Kd.R_mono (Kd.R_step (Kd.R_types L4.out R0.out.blk (by decide)) (fun k hk hlt => hf.k.2 k hlt hk.2)) (fun _ hk => hk.1)); have M5 := am (Kd.R_mono (Kd.R_step (Kd.R_types L5.out R0.out.blk (by decide)) (fun k hk hlt => hf.k.2 k hlt hk.2)) (fun _ hk => hk.1)); have M6 := am (Kd.R_mono (Kd.R_step (Kd.R_types L6.out R0.out.blk (by decide)) (fun k hk hlt => hf.k.2 k hlt hk.2)) (fun _ hk => hk.1)); have M8 := am (Kd.R_mono (Kd.R_step (Kd.R_types L8.out R0.out.blk (by decide)) (fun k hk hlt => hf.k.2 k hlt hk.2)) (fun _ hk => hk.1)); have M9 := am (Kd.R_mono (Kd.R_step (Kd.R_types L9.out R0.out.blk (by decide)) (fun k hk hlt => hf.k.2 k hlt hk.2)) (fun _ hk => hk.1)); have M10 := am (Kd.R_mono (Kd.R_step (Kd.R_types L10.out R0.out.blk (by decide)) (fun k hk hlt => hf.k.2 k hlt hk.2)) (fun _ hk => hk.1)); clear hh hr hf hx hv K0 R0 L0 L1 L2 L3 L4 L5 L6 L8 L9 L10)
  | ((with_reducible refine gate_store (p := 54) rfl ?_); refine storeCell_event (g := go) (j := 3) (x := .slice A xs.length c) rfl rfl rfl rfl rfl K1.out (by simp) (by kernel_rfl) rfl ?_; intro w2 hA hb ho hs; have R2 := am (rd_ne R1.out (Fr.stored (S := fun k => k = go) hb ho hs rfl) NE.out H2.out); have F2 := am (F1.out.then_ (Fr.stored (S := fun k => k = go) hb ho hs rfl) (fun k hk => .inl (.inr hk))); have N0 := am (Kd.R_mono (Kd.R_step (Kd.R_types M0.out K1.out (by decide)) (fun k hk _ => ho k hk.2)) (fun _ hk => hk.1)); have N1 := am (Kd.R_mono (Kd.R_step (Kd.R_types M1.out K1.out (by decide)) (fun k hk _ => ho k hk.2)) (fun _ hk => hk.1)); have N2 := am (Kd.R_mono (Kd.R_step (Kd.R_types M2.out K1.out (by decide)) (fun k hk _ => ho k hk.2)) (fun _ hk => hk.1)); have N3 := am (Kd.R_mono (Kd.R_step (Kd.R_types M3.out K1.out (by decide)) (fun k hk _ => ho k hk.2)) (fun _ hk => hk.1)); have N4 := am (Kd.R_mono (Kd.R_step (Kd.R_types M4.out K1.out (by decide)) (fun k hk _ => ho k hk.2)) (fun _ hk => hk.1)); have N5 := am (Kd.R_mono (Kd.R_step (Kd.R_types M5.out K1.out (by decide)) (fun k hk _ => ho k hk.2)) (fun _ hk => hk.1)); have N6 := am (Kd.R_mono (Kd.R_step (Kd.R_types M6.out K1.out (by decide)) (fun k hk _ => ho k hk.2)) (fun _ hk => hk.1)); have N8 := am (Kd.R_mono (Kd.R_step (Kd.R_types M8.out K1.out (by decide)) (fun k hk _ => ho k hk.2)) (fun _ hk => hk.1)); have N9 := am (Kd.R_mono (Kd.R_step (Kd.R_types M9.out K1.out (by decide)) (fun k hk _ => ho k hk.2)) (fun _ hk => hk.1)); have N10 := am (Kd.R_mono (Kd.R_step (Kd.R_types M10.out K1.out (by decide)) (fun k hk _ => ho k hk.2)) (fun _ hk => hk.1)); have LN2 := am (Kd.R_mono (Kd.R_step (Kd.R_types LN.out K1.out (by decide)) (fun k hk _ => ho k hk.2)) (fun _ hk => hk.1)); have MO2 : Aside0 (ModAt B go w2 { m with tables := xs }) := ⟨v0, v1, v2, _, v4, v5, v6, v8, v9, v10, hA, N0.out, N1.out, N2.out, LN2.out, N4.out, N5.out, N6.out, N8.out, N9.out, N10.out⟩; have c0 : w2.cell? ⟨g, 0, none⟩ = some (.string s) := blk_cell R2.out.blk 0; have c1 : w2.cell? ⟨g, 1, none⟩ = some (.int .i64 a1) := blk_cell R2.out.blk 1; clear hA hb ho hs K1 R1 F1 LN LN2 M0 N0 M1 N1 M2 N2 M3 N3 M4 N4 M5 N5 M6 N6 M8 N8 M9 N9 M10 N10))
 refine start_ (n := 11) (S := fun w' => RdD g s (a1) w' ∧ Fr W w' (fun k => k = g ∨ k = go) ∧ ModAt B go w' { m with tables := xs } ∧ w'.cell? ⟨g, 0, none⟩ = some (.string s) ∧ w'.cell? ⟨g, 1, none⟩ = some (.int .i64 (a1))) (ds := []) #[false, false, false, false, false, false, false, false, false, false, false] (by kernel_rfl) rfl rfl ⟨rd_drew R2.out, F2.out.drew, mod_below MO2.out (below_drew (Below.refl _ _)), c0, c1⟩ (fun hHeld => ?_)
 refine pu (i := 0) (N := some 116) (v := ?_) (a' := ?_) rfl rfl (by kernel_rfl) (fun _ _ _ h => h) (.inl ⟨by rfl, ?_⟩) ?_ ?_; rotate_left
 ·intro w'; go_simp; with_reducible rfl
 rotate_left; · simp only [Act.put, List.setIfInBounds_toArray, List.set_cons_zero, List.set_cons_succ, i64_w, i32_w]; rfl
 refine pu (i := 1) (N := some 117) (v := ?_) (a' := ?_) rfl rfl (by kernel_rfl) (fun _ _ _ h => h) (.inl ⟨by rfl, ?_⟩) ?_ ?_; rotate_left
 ·intro w'; go_simp; with_reducible rfl
 rotate_left; · simp only [Act.put, List.setIfInBounds_toArray, List.set_cons_zero, List.set_cons_succ, i64_w, i32_w]; rfl
 refine pu (i := 2) (N := some 118) (v := ?_) (a' := ?_) rfl rfl (by kernel_rfl) (fun _ _ _ h => h) (.inl ⟨by rfl, ?_⟩) ?_ ?_; rotate_left
 ·intro w'; go_simp; with_reducible rfl
 rotate_left; · simp only [Act.put, List.setIfInBounds_toArray, List.set_cons_zero, List.set_cons_succ, i64_w, i32_w]; rfl
 refine pu (i := 4) (N := some 120) (v := ?_) (a' := ?_) rfl rfl (by kernel_rfl) (fun _ _ _ h => h) (.inl ⟨by rfl, ?_⟩) ?_ ?_; rotate_left
 ·intro w'; go_simp; with_reducible rfl
 rotate_left; · simp only [Act.put, List.setIfInBounds_toArray, List.set_cons_zero, List.set_cons_succ, i64_w, i32_w]; rfl
 refine pu (i := 5) (N := some 121) (v := ?_) (a' := ?_) rfl rfl (by kernel_rfl) (fun _ _ _ h => h) (.inl ⟨by rfl, ?_⟩) ?_ ?_; rotate_left
 ·intro w'; go_simp; with_reducible rfl
 rotate_left; · simp only [Act.put, List.setIfInBounds_toArray, List.set_cons_zero, List.set_cons_succ, i64_w, i32_w]; rfl
 refine pu (i := 6) (N := some 122) (v := ?_) (a' := ?_) rfl rfl (by kernel_rfl) (fun _ _ _ h => h) (.inl ⟨by rfl, ?_⟩) ?_ ?_; rotate_left
 ·intro w'; go_simp; with_reducible rfl
 rotate_left; · simp only [Act.put, List.setIfInBounds_toArray, List.set_cons_zero, List.set_cons_succ, i64_w, i32_w]; rfl
 refine tu (i := 3) (N := some 119) (v := ?_) (a' := ?_) rfl rfl (by kernel_rfl) (fun _ _ _ h => h) (.inl ⟨by rfl, ?_⟩) hHeld ?_ ?_; rotate_left
 ·rintro w' ⟨s0, s1, s2, s3, s4⟩; go_simp; with_reducible rfl
 rotate_left; · simp only [Act.put, List.setIfInBounds_toArray, List.set_cons_zero, List.set_cons_succ, i64_w, i32_w]; rfl
 refine tu (i := 7) (N := some 123) (v := ?_) (a' := ?_) rfl rfl (by kernel_rfl) (fun _ _ _ h => h) (.inl ⟨by rfl, ?_⟩) hHeld ?_ ?_; rotate_left
 ·rintro w' ⟨s0, s1, s2, s3, s4⟩; go_simp; with_reducible rfl
 rotate_left; · simp only [Act.put, List.setIfInBounds_toArray, List.set_cons_zero, List.set_cons_succ, i64_w, i32_w]; rfl
 refine pu (i := 8) (N := some 124) (v := ?_) (a' := ?_) rfl rfl (by kernel_rfl) (fun _ _ _ h => h) (.inl ⟨by rfl, ?_⟩) ?_ ?_; rotate_left
 ·intro w'; go_simp; with_reducible rfl
 rotate_left; · simp only [Act.put, List.setIfInBounds_toArray, List.set_cons_zero, List.set_cons_succ, i64_w, i32_w]; rfl
 refine pu (i := 9) (N := some 125) (v := ?_) (a' := ?_) rfl rfl (by kernel_rfl) (fun _ _ _ h => h) (.inl ⟨by rfl, ?_⟩) ?_ ?_; rotate_left
 ·intro w'; go_simp; with_reducible rfl
 rotate_left; · simp only [Act.put, List.setIfInBounds_toArray, List.set_cons_zero, List.set_cons_succ, i64_w, i32_w]; rfl
 refine one_ (i := 10) (N := some 126) #[true, true, true, true, true, true, true, true, true, true, true] rfl rfl (by kernel_rfl) (by decide) (fun K hK => ?_)
 obtain ⟨r0, r1, r2, c0, c1⟩ := hHeld
 refine goesP_ Tryd.func23 (by kernel_rfl) rfl #[.bool ((a1) == (s.size : Int)), .int .i64 1504] (by rfl) rfl rfl (by simp only [List.map_toArray, List.map_cons, List.map_nil]; rfl) ?_
 with_reducible refine (need_c _ _ _).mono ?_
 rintro e w3 ⟨rfl, (⟨hb, rfl⟩ | ⟨hb, rfl⟩)⟩
 ·exact .inl ⟨_, rfl, rfl, sec_er (by rw [dSec_4, secA_ok X1.out, if_neg (ne_of_beq_false hb)]) rfl r1⟩
 refine .inr ⟨_, rfl, ?_⟩
 have Q0 := am r0
 have Q1 := am r1
 have Q2 := am r2
 have Q3 := am (eq_of_beq hb)
 clear r0 r1 r2
 refine hK.out _ _ ⟨Q0.out, Q1.out, Q2.out, c0, c1⟩ (fun hHeld => ?_)
 clear hK K
 refine norm_ (a' := ?_) ?_ ?_
 rotate_left
 ·show Act.put _ (some 126) _ = _
  simp only [Act.put, List.setIfInBounds_toArray, List.set_cons_zero, List.set_cons_succ, i64_w, i32_w]
  rfl
 refine done_ (by kernel_rfl) ?_
 go_wp2
 go_end0
 exact sec_ok (by rw [dSec_4, secA_ok X1.out, if_pos Q3.out]) rfl Q2.out Q1.out
theorem dSec_5 (s : ByteArray) (m : Mod) : dSec s 5 m = secA s (dList s 1024 (dLimits s) 0) fun x => { m with mems := x } := by simp [dSec]
set_option maxHeartbeats 4000000 in
set_option maxRecDepth 100000 in
theorem sec_5 {B g go : Nat} {s : ByteArray} {W : World} {m : Mod} (hB : B ≤ W.heap.size) (hne : g ≠ go) (h2 : 2 ≤ go) (h : RdD g s 0 W) (hm : ModAt B go W m) : Calls Tryd.prog 26 #[.pointer (some ⟨g, 0, none⟩), .int .i64 5, .pointer (some ⟨go, 0, none⟩)] W (SecPost B g go W (dSec s 5 m)) := by
 have R0 := am h
 have HB := am hB
 have NE := am hne
 have H2 := am h2
 obtain ⟨v0, v1, v2, v3, v4, v5, v6, v8, v9, v10, hK, h0, h1, h2, h3, h4, h5, h6, h8, h9, h10⟩ := hm
 have K0 := am hK
 have L0 := am h0
 have L1 := am h1
 have L2 := am h2
 have L3 := am h3
 have L4 := am h4
 have L5 := am h5
 have L6 := am h6
 have L8 := am h8
 have L9 := am h9
 have L10 := am h10
 clear hK h0 h1 h2 h3 h4 h5 h6 h8 h9 h10
 clear h hB hne h2
 go_enter Tryd.func26, Tryd.ntmps26
 go_wp2_with (first
  | (go_at_call 42; (with_reducible refine (list_limits_c 1024 (by decide) (dLimits s) (fun a W h => limits_c h) R0.out).mono ?_); intro e w1 hh; rcases ret_cases hh with ⟨c, hc, rfl, hf⟩ | ⟨xs, a1, v, hx, rfl, hv, hr, hf⟩; (exact ⟨rfl, sec_er (by rw [dSec_5, secA_er hc]) rfl (hf.mono (fun _ hk => .inl hk))⟩); obtain ⟨A, c, rfl⟩ := Kd.R_slice hv; have LN := am (Kd.R_mono hv (fun k hk => Nat.le_trans HB.out hk)); have R1 := am hr; have F1 : Aside0 (Fr W w1 (fun k => k = g ∨ k = go)) := ⟨hf.mono (fun _ hk => .inl hk)⟩; have X1 := am hx; have K1 := am (hf.block K0.out (fun h => NE.out h.symm)); have M0 := am (Kd.R_mono (Kd.R_step (Kd.R_types L0.out R0.out.blk (by decide)) (fun k hk hlt => hf.k.2 k hlt hk.2)) (fun _ hk => hk.1)); have M1 := am (Kd.R_mono (Kd.R_step (Kd.R_types L1.out R0.out.blk (by decide)) (fun k hk hlt => hf.k.2 k hlt hk.2)) (fun _ hk => hk.1)); have M2 := am (Kd.R_mono (Kd.R_step (Kd.R_types L2.out R0.out.blk (by decide)) (fun k hk hlt => hf.k.2 k hlt hk.2)) (fun _ hk => hk.1)); have M3 := am (Kd.R_mono (Kd.R_step (Kd.R_types L3.out R0.out.blk (by decide)) (fun k hk hlt => hf.k.2 k hlt hk.2)) (fun _ hk => hk.1)); have M4 := am (Kd.R_mono (Kd.R_step (Kd.R_types L4.out R0.out.blk (by decide)) (fun k hk hlt => hf.k.2 k hlt hk.2)) (fun _ hk => hk.1)); have M5 := am (Kd.R_mono (Kd.R_step (Kd.R_types L5.out R0.out.blk (by decide)) (fun k hk hlt => hf.k.2 k hlt hk.2)) (fun _ hk => hk.1)); have M6 := am (Kd.R_mono (Kd.R_step (Kd.R_types L6.out R0.out.blk (by decide)) (fun k hk hlt => hf.k.2 k hlt hk.2)) (fun _ hk => hk.1)); have M8 := am (Kd.R_mono (Kd.R_step (Kd.R_types L8.out R0.out.blk (by decide)) (fun k hk hlt => hf.k.2 k hlt hk.2)) (fun _ hk => hk.1)); have M9 := am (Kd.R_mono (Kd.R_step (Kd.R_types L9.out R0.out.blk (by decide)) (fun k hk hlt => hf.k.2 k hlt hk.2)) (fun _ hk => hk.1)); have M10 := am (Kd.R_mono (Kd.R_step (Kd.R_types L10.out R0.out.blk (by decide)) (fun k hk hlt => hf.k.2 k hlt hk.2)) (fun _ hk => hk.1)); clear hh hr hf hx hv K0 R0 L0 L1 L2 L3 L4 L5 L6 L8 L9 L10)
  | ((with_reducible refine gate_store (p := 63) rfl ?_); refine storeCell_event (g := go) (j := 4) (x := .slice A xs.length c) rfl rfl rfl rfl rfl K1.out (by simp) (by kernel_rfl) rfl ?_; intro w2 hA hb ho hs; have R2 := am (rd_ne R1.out (Fr.stored (S := fun k => k = go) hb ho hs rfl) NE.out H2.out); have F2 := am (F1.out.then_ (Fr.stored (S := fun k => k = go) hb ho hs rfl) (fun k hk => .inl (.inr hk))); have N0 := am (Kd.R_mono (Kd.R_step (Kd.R_types M0.out K1.out (by decide)) (fun k hk _ => ho k hk.2)) (fun _ hk => hk.1)); have N1 := am (Kd.R_mono (Kd.R_step (Kd.R_types M1.out K1.out (by decide)) (fun k hk _ => ho k hk.2)) (fun _ hk => hk.1)); have N2 := am (Kd.R_mono (Kd.R_step (Kd.R_types M2.out K1.out (by decide)) (fun k hk _ => ho k hk.2)) (fun _ hk => hk.1)); have N3 := am (Kd.R_mono (Kd.R_step (Kd.R_types M3.out K1.out (by decide)) (fun k hk _ => ho k hk.2)) (fun _ hk => hk.1)); have N4 := am (Kd.R_mono (Kd.R_step (Kd.R_types M4.out K1.out (by decide)) (fun k hk _ => ho k hk.2)) (fun _ hk => hk.1)); have N5 := am (Kd.R_mono (Kd.R_step (Kd.R_types M5.out K1.out (by decide)) (fun k hk _ => ho k hk.2)) (fun _ hk => hk.1)); have N6 := am (Kd.R_mono (Kd.R_step (Kd.R_types M6.out K1.out (by decide)) (fun k hk _ => ho k hk.2)) (fun _ hk => hk.1)); have N8 := am (Kd.R_mono (Kd.R_step (Kd.R_types M8.out K1.out (by decide)) (fun k hk _ => ho k hk.2)) (fun _ hk => hk.1)); have N9 := am (Kd.R_mono (Kd.R_step (Kd.R_types M9.out K1.out (by decide)) (fun k hk _ => ho k hk.2)) (fun _ hk => hk.1)); have N10 := am (Kd.R_mono (Kd.R_step (Kd.R_types M10.out K1.out (by decide)) (fun k hk _ => ho k hk.2)) (fun _ hk => hk.1)); have LN2 := am (Kd.R_mono (Kd.R_step (Kd.R_types LN.out K1.out (by decide)) (fun k hk _ => ho k hk.2)) (fun _ hk => hk.1)); have MO2 : Aside0 (ModAt B go w2 { m with mems := xs }) := ⟨v0, v1, v2, v3, _, v5, v6, v8, v9, v10, hA, N0.out, N1.out, N2.out, N3.out, LN2.out, N5.out, N6.out, N8.out, N9.out, N10.out⟩; have c0 : w2.cell? ⟨g, 0, none⟩ = some (.string s) := blk_cell R2.out.blk 0; have c1 : w2.cell? ⟨g, 1, none⟩ = some (.int .i64 a1) := blk_cell R2.out.blk 1; clear hA hb ho hs K1 R1 F1 LN LN2 M0 N0 M1 N1 M2 N2 M3 N3 M4 N4 M5 N5 M6 N6 M8 N8 M9 N9 M10 N10))
 refine start_ (n := 11) (S := fun w' => RdD g s (a1) w' ∧ Fr W w' (fun k => k = g ∨ k = go) ∧ ModAt B go w' { m with mems := xs } ∧ w'.cell? ⟨g, 0, none⟩ = some (.string s) ∧ w'.cell? ⟨g, 1, none⟩ = some (.int .i64 (a1))) (ds := []) #[false, false, false, false, false, false, false, false, false, false, false] (by kernel_rfl) rfl rfl ⟨rd_drew R2.out, F2.out.drew, mod_below MO2.out (below_drew (Below.refl _ _)), c0, c1⟩ (fun hHeld => ?_)
 refine pu (i := 0) (N := some 116) (v := ?_) (a' := ?_) rfl rfl (by kernel_rfl) (fun _ _ _ h => h) (.inl ⟨by rfl, ?_⟩) ?_ ?_; rotate_left
 ·intro w'; go_simp; with_reducible rfl
 rotate_left; · simp only [Act.put, List.setIfInBounds_toArray, List.set_cons_zero, List.set_cons_succ, i64_w, i32_w]; rfl
 refine pu (i := 1) (N := some 117) (v := ?_) (a' := ?_) rfl rfl (by kernel_rfl) (fun _ _ _ h => h) (.inl ⟨by rfl, ?_⟩) ?_ ?_; rotate_left
 ·intro w'; go_simp; with_reducible rfl
 rotate_left; · simp only [Act.put, List.setIfInBounds_toArray, List.set_cons_zero, List.set_cons_succ, i64_w, i32_w]; rfl
 refine pu (i := 2) (N := some 118) (v := ?_) (a' := ?_) rfl rfl (by kernel_rfl) (fun _ _ _ h => h) (.inl ⟨by rfl, ?_⟩) ?_ ?_; rotate_left
 ·intro w'; go_simp; with_reducible rfl
 rotate_left; · simp only [Act.put, List.setIfInBounds_toArray, List.set_cons_zero, List.set_cons_succ, i64_w, i32_w]; rfl
 refine pu (i := 4) (N := some 120) (v := ?_) (a' := ?_) rfl rfl (by kernel_rfl) (fun _ _ _ h => h) (.inl ⟨by rfl, ?_⟩) ?_ ?_; rotate_left
 ·intro w'; go_simp; with_reducible rfl
 rotate_left; · simp only [Act.put, List.setIfInBounds_toArray, List.set_cons_zero, List.set_cons_succ, i64_w, i32_w]; rfl
 refine pu (i := 5) (N := some 121) (v := ?_) (a' := ?_) rfl rfl (by kernel_rfl) (fun _ _ _ h => h) (.inl ⟨by rfl, ?_⟩) ?_ ?_; rotate_left
 ·intro w'; go_simp; with_reducible rfl
 rotate_left; · simp only [Act.put, List.setIfInBounds_toArray, List.set_cons_zero, List.set_cons_succ, i64_w, i32_w]; rfl
 refine pu (i := 6) (N := some 122) (v := ?_) (a' := ?_) rfl rfl (by kernel_rfl) (fun _ _ _ h => h) (.inl ⟨by rfl, ?_⟩) ?_ ?_; rotate_left
 ·intro w'; go_simp; with_reducible rfl
 rotate_left; · simp only [Act.put, List.setIfInBounds_toArray, List.set_cons_zero, List.set_cons_succ, i64_w, i32_w]; rfl
 refine tu (i := 3) (N := some 119) (v := ?_) (a' := ?_) rfl rfl (by kernel_rfl) (fun _ _ _ h => h) (.inl ⟨by rfl, ?_⟩) hHeld ?_ ?_; rotate_left
 ·rintro w' ⟨s0, s1, s2, s3, s4⟩; go_simp; with_reducible rfl
 rotate_left; · simp only [Act.put, List.setIfInBounds_toArray, List.set_cons_zero, List.set_cons_succ, i64_w, i32_w]; rfl
 refine tu (i := 7) (N := some 123) (v := ?_) (a' := ?_) rfl rfl (by kernel_rfl) (fun _ _ _ h => h) (.inl ⟨by rfl, ?_⟩) hHeld ?_ ?_; rotate_left
 ·rintro w' ⟨s0, s1, s2, s3, s4⟩; go_simp; with_reducible rfl
 rotate_left; · simp only [Act.put, List.setIfInBounds_toArray, List.set_cons_zero, List.set_cons_succ, i64_w, i32_w]; rfl
 refine pu (i := 8) (N := some 124) (v := ?_) (a' := ?_) rfl rfl (by kernel_rfl) (fun _ _ _ h => h) (.inl ⟨by rfl, ?_⟩) ?_ ?_; rotate_left
 ·intro w'; go_simp; with_reducible rfl
 rotate_left; · simp only [Act.put, List.setIfInBounds_toArray, List.set_cons_zero, List.set_cons_succ, i64_w, i32_w]; rfl
 refine pu (i := 9) (N := some 125) (v := ?_) (a' := ?_) rfl rfl (by kernel_rfl) (fun _ _ _ h => h) (.inl ⟨by rfl, ?_⟩) ?_ ?_; rotate_left
 ·intro w'; go_simp; with_reducible rfl
 rotate_left; · simp only [Act.put, List.setIfInBounds_toArray, List.set_cons_zero, List.set_cons_succ, i64_w, i32_w]; rfl
 refine one_ (i := 10) (N := some 126) #[true, true, true, true, true, true, true, true, true, true, true] rfl rfl (by kernel_rfl) (by decide) (fun K hK => ?_)
 obtain ⟨r0, r1, r2, c0, c1⟩ := hHeld
 refine goesP_ Tryd.func23 (by kernel_rfl) rfl #[.bool ((a1) == (s.size : Int)), .int .i64 1504] (by rfl) rfl rfl (by simp only [List.map_toArray, List.map_cons, List.map_nil]; rfl) ?_
 with_reducible refine (need_c _ _ _).mono ?_
 rintro e w3 ⟨rfl, (⟨hb, rfl⟩ | ⟨hb, rfl⟩)⟩
 ·exact .inl ⟨_, rfl, rfl, sec_er (by rw [dSec_5, secA_ok X1.out, if_neg (ne_of_beq_false hb)]) rfl r1⟩
 refine .inr ⟨_, rfl, ?_⟩
 have Q0 := am r0
 have Q1 := am r1
 have Q2 := am r2
 have Q3 := am (eq_of_beq hb)
 clear r0 r1 r2
 refine hK.out _ _ ⟨Q0.out, Q1.out, Q2.out, c0, c1⟩ (fun hHeld => ?_)
 clear hK K
 refine norm_ (a' := ?_) ?_ ?_
 rotate_left
 ·show Act.put _ (some 126) _ = _
  simp only [Act.put, List.setIfInBounds_toArray, List.set_cons_zero, List.set_cons_succ, i64_w, i32_w]
  rfl
 refine done_ (by kernel_rfl) ?_
 go_wp2
 go_end0
 exact sec_ok (by rw [dSec_5, secA_ok X1.out, if_pos Q3.out]) rfl Q2.out Q1.out
theorem dSec_6 (s : ByteArray) (m : Mod) : dSec s 6 m = secA s (dList s 1024 (dGlobal s) 0) fun x => { m with globals := x } := by simp [dSec]
set_option maxHeartbeats 4000000 in
set_option maxRecDepth 100000 in
theorem sec_6 {B g go : Nat} {s : ByteArray} {W : World} {m : Mod} (hB : B ≤ W.heap.size) (hne : g ≠ go) (h2 : 2 ≤ go) (h : RdD g s 0 W) (hm : ModAt B go W m) : Calls Tryd.prog 26 #[.pointer (some ⟨g, 0, none⟩), .int .i64 6, .pointer (some ⟨go, 0, none⟩)] W (SecPost B g go W (dSec s 6 m)) := by
 have R0 := am h
 have HB := am hB
 have NE := am hne
 have H2 := am h2
 obtain ⟨v0, v1, v2, v3, v4, v5, v6, v8, v9, v10, hK, h0, h1, h2, h3, h4, h5, h6, h8, h9, h10⟩ := hm
 have K0 := am hK
 have L0 := am h0
 have L1 := am h1
 have L2 := am h2
 have L3 := am h3
 have L4 := am h4
 have L5 := am h5
 have L6 := am h6
 have L8 := am h8
 have L9 := am h9
 have L10 := am h10
 clear hK h0 h1 h2 h3 h4 h5 h6 h8 h9 h10
 clear h hB hne h2
 go_enter Tryd.func26, Tryd.ntmps26
 go_wp2_with (first
  | (go_at_call 45; (with_reducible refine (list_global_c 1024 (by decide) (dGlobal s) (fun a W h => global_c h) R0.out).mono ?_); intro e w1 hh; rcases ret_cases hh with ⟨c, hc, rfl, hf⟩ | ⟨xs, a1, v, hx, rfl, hv, hr, hf⟩; (exact ⟨rfl, sec_er (by rw [dSec_6, secA_er hc]) rfl (hf.mono (fun _ hk => .inl hk))⟩); obtain ⟨A, c, rfl⟩ := Kd.R_slice hv; have LN := am (Kd.R_mono hv (fun k hk => Nat.le_trans HB.out hk)); have R1 := am hr; have F1 : Aside0 (Fr W w1 (fun k => k = g ∨ k = go)) := ⟨hf.mono (fun _ hk => .inl hk)⟩; have X1 := am hx; have K1 := am (hf.block K0.out (fun h => NE.out h.symm)); have M0 := am (Kd.R_mono (Kd.R_step (Kd.R_types L0.out R0.out.blk (by decide)) (fun k hk hlt => hf.k.2 k hlt hk.2)) (fun _ hk => hk.1)); have M1 := am (Kd.R_mono (Kd.R_step (Kd.R_types L1.out R0.out.blk (by decide)) (fun k hk hlt => hf.k.2 k hlt hk.2)) (fun _ hk => hk.1)); have M2 := am (Kd.R_mono (Kd.R_step (Kd.R_types L2.out R0.out.blk (by decide)) (fun k hk hlt => hf.k.2 k hlt hk.2)) (fun _ hk => hk.1)); have M3 := am (Kd.R_mono (Kd.R_step (Kd.R_types L3.out R0.out.blk (by decide)) (fun k hk hlt => hf.k.2 k hlt hk.2)) (fun _ hk => hk.1)); have M4 := am (Kd.R_mono (Kd.R_step (Kd.R_types L4.out R0.out.blk (by decide)) (fun k hk hlt => hf.k.2 k hlt hk.2)) (fun _ hk => hk.1)); have M5 := am (Kd.R_mono (Kd.R_step (Kd.R_types L5.out R0.out.blk (by decide)) (fun k hk hlt => hf.k.2 k hlt hk.2)) (fun _ hk => hk.1)); have M6 := am (Kd.R_mono (Kd.R_step (Kd.R_types L6.out R0.out.blk (by decide)) (fun k hk hlt => hf.k.2 k hlt hk.2)) (fun _ hk => hk.1)); have M8 := am (Kd.R_mono (Kd.R_step (Kd.R_types L8.out R0.out.blk (by decide)) (fun k hk hlt => hf.k.2 k hlt hk.2)) (fun _ hk => hk.1)); have M9 := am (Kd.R_mono (Kd.R_step (Kd.R_types L9.out R0.out.blk (by decide)) (fun k hk hlt => hf.k.2 k hlt hk.2)) (fun _ hk => hk.1)); have M10 := am (Kd.R_mono (Kd.R_step (Kd.R_types L10.out R0.out.blk (by decide)) (fun k hk hlt => hf.k.2 k hlt hk.2)) (fun _ hk => hk.1)); clear hh hr hf hx hv K0 R0 L0 L1 L2 L3 L4 L5 L6 L8 L9 L10)
  | ((with_reducible refine gate_store (p := 72) rfl ?_); refine storeCell_event (g := go) (j := 5) (x := .slice A xs.length c) rfl rfl rfl rfl rfl K1.out (by simp) (by kernel_rfl) rfl ?_; intro w2 hA hb ho hs; have R2 := am (rd_ne R1.out (Fr.stored (S := fun k => k = go) hb ho hs rfl) NE.out H2.out); have F2 := am (F1.out.then_ (Fr.stored (S := fun k => k = go) hb ho hs rfl) (fun k hk => .inl (.inr hk))); have N0 := am (Kd.R_mono (Kd.R_step (Kd.R_types M0.out K1.out (by decide)) (fun k hk _ => ho k hk.2)) (fun _ hk => hk.1)); have N1 := am (Kd.R_mono (Kd.R_step (Kd.R_types M1.out K1.out (by decide)) (fun k hk _ => ho k hk.2)) (fun _ hk => hk.1)); have N2 := am (Kd.R_mono (Kd.R_step (Kd.R_types M2.out K1.out (by decide)) (fun k hk _ => ho k hk.2)) (fun _ hk => hk.1)); have N3 := am (Kd.R_mono (Kd.R_step (Kd.R_types M3.out K1.out (by decide)) (fun k hk _ => ho k hk.2)) (fun _ hk => hk.1)); have N4 := am (Kd.R_mono (Kd.R_step (Kd.R_types M4.out K1.out (by decide)) (fun k hk _ => ho k hk.2)) (fun _ hk => hk.1)); have N5 := am (Kd.R_mono (Kd.R_step (Kd.R_types M5.out K1.out (by decide)) (fun k hk _ => ho k hk.2)) (fun _ hk => hk.1)); have N6 := am (Kd.R_mono (Kd.R_step (Kd.R_types M6.out K1.out (by decide)) (fun k hk _ => ho k hk.2)) (fun _ hk => hk.1)); have N8 := am (Kd.R_mono (Kd.R_step (Kd.R_types M8.out K1.out (by decide)) (fun k hk _ => ho k hk.2)) (fun _ hk => hk.1)); have N9 := am (Kd.R_mono (Kd.R_step (Kd.R_types M9.out K1.out (by decide)) (fun k hk _ => ho k hk.2)) (fun _ hk => hk.1)); have N10 := am (Kd.R_mono (Kd.R_step (Kd.R_types M10.out K1.out (by decide)) (fun k hk _ => ho k hk.2)) (fun _ hk => hk.1)); have LN2 := am (Kd.R_mono (Kd.R_step (Kd.R_types LN.out K1.out (by decide)) (fun k hk _ => ho k hk.2)) (fun _ hk => hk.1)); have MO2 : Aside0 (ModAt B go w2 { m with globals := xs }) := ⟨v0, v1, v2, v3, v4, _, v6, v8, v9, v10, hA, N0.out, N1.out, N2.out, N3.out, N4.out, LN2.out, N6.out, N8.out, N9.out, N10.out⟩; have c0 : w2.cell? ⟨g, 0, none⟩ = some (.string s) := blk_cell R2.out.blk 0; have c1 : w2.cell? ⟨g, 1, none⟩ = some (.int .i64 a1) := blk_cell R2.out.blk 1; clear hA hb ho hs K1 R1 F1 LN LN2 M0 N0 M1 N1 M2 N2 M3 N3 M4 N4 M5 N5 M6 N6 M8 N8 M9 N9 M10 N10))
 refine start_ (n := 11) (S := fun w' => RdD g s (a1) w' ∧ Fr W w' (fun k => k = g ∨ k = go) ∧ ModAt B go w' { m with globals := xs } ∧ w'.cell? ⟨g, 0, none⟩ = some (.string s) ∧ w'.cell? ⟨g, 1, none⟩ = some (.int .i64 (a1))) (ds := []) #[false, false, false, false, false, false, false, false, false, false, false] (by kernel_rfl) rfl rfl ⟨rd_drew R2.out, F2.out.drew, mod_below MO2.out (below_drew (Below.refl _ _)), c0, c1⟩ (fun hHeld => ?_)
 refine pu (i := 0) (N := some 116) (v := ?_) (a' := ?_) rfl rfl (by kernel_rfl) (fun _ _ _ h => h) (.inl ⟨by rfl, ?_⟩) ?_ ?_; rotate_left
 ·intro w'; go_simp; with_reducible rfl
 rotate_left; · simp only [Act.put, List.setIfInBounds_toArray, List.set_cons_zero, List.set_cons_succ, i64_w, i32_w]; rfl
 refine pu (i := 1) (N := some 117) (v := ?_) (a' := ?_) rfl rfl (by kernel_rfl) (fun _ _ _ h => h) (.inl ⟨by rfl, ?_⟩) ?_ ?_; rotate_left
 ·intro w'; go_simp; with_reducible rfl
 rotate_left; · simp only [Act.put, List.setIfInBounds_toArray, List.set_cons_zero, List.set_cons_succ, i64_w, i32_w]; rfl
 refine pu (i := 2) (N := some 118) (v := ?_) (a' := ?_) rfl rfl (by kernel_rfl) (fun _ _ _ h => h) (.inl ⟨by rfl, ?_⟩) ?_ ?_; rotate_left
 ·intro w'; go_simp; with_reducible rfl
 rotate_left; · simp only [Act.put, List.setIfInBounds_toArray, List.set_cons_zero, List.set_cons_succ, i64_w, i32_w]; rfl
 refine pu (i := 4) (N := some 120) (v := ?_) (a' := ?_) rfl rfl (by kernel_rfl) (fun _ _ _ h => h) (.inl ⟨by rfl, ?_⟩) ?_ ?_; rotate_left
 ·intro w'; go_simp; with_reducible rfl
 rotate_left; · simp only [Act.put, List.setIfInBounds_toArray, List.set_cons_zero, List.set_cons_succ, i64_w, i32_w]; rfl
 refine pu (i := 5) (N := some 121) (v := ?_) (a' := ?_) rfl rfl (by kernel_rfl) (fun _ _ _ h => h) (.inl ⟨by rfl, ?_⟩) ?_ ?_; rotate_left
 ·intro w'; go_simp; with_reducible rfl
 rotate_left; · simp only [Act.put, List.setIfInBounds_toArray, List.set_cons_zero, List.set_cons_succ, i64_w, i32_w]; rfl
 refine pu (i := 6) (N := some 122) (v := ?_) (a' := ?_) rfl rfl (by kernel_rfl) (fun _ _ _ h => h) (.inl ⟨by rfl, ?_⟩) ?_ ?_; rotate_left
 ·intro w'; go_simp; with_reducible rfl
 rotate_left; · simp only [Act.put, List.setIfInBounds_toArray, List.set_cons_zero, List.set_cons_succ, i64_w, i32_w]; rfl
 refine tu (i := 3) (N := some 119) (v := ?_) (a' := ?_) rfl rfl (by kernel_rfl) (fun _ _ _ h => h) (.inl ⟨by rfl, ?_⟩) hHeld ?_ ?_; rotate_left
 ·rintro w' ⟨s0, s1, s2, s3, s4⟩; go_simp; with_reducible rfl
 rotate_left; · simp only [Act.put, List.setIfInBounds_toArray, List.set_cons_zero, List.set_cons_succ, i64_w, i32_w]; rfl
 refine tu (i := 7) (N := some 123) (v := ?_) (a' := ?_) rfl rfl (by kernel_rfl) (fun _ _ _ h => h) (.inl ⟨by rfl, ?_⟩) hHeld ?_ ?_; rotate_left
 ·rintro w' ⟨s0, s1, s2, s3, s4⟩; go_simp; with_reducible rfl
 rotate_left; · simp only [Act.put, List.setIfInBounds_toArray, List.set_cons_zero, List.set_cons_succ, i64_w, i32_w]; rfl
 refine pu (i := 8) (N := some 124) (v := ?_) (a' := ?_) rfl rfl (by kernel_rfl) (fun _ _ _ h => h) (.inl ⟨by rfl, ?_⟩) ?_ ?_; rotate_left
 ·intro w'; go_simp; with_reducible rfl
 rotate_left; · simp only [Act.put, List.setIfInBounds_toArray, List.set_cons_zero, List.set_cons_succ, i64_w, i32_w]; rfl
 refine pu (i := 9) (N := some 125) (v := ?_) (a' := ?_) rfl rfl (by kernel_rfl) (fun _ _ _ h => h) (.inl ⟨by rfl, ?_⟩) ?_ ?_; rotate_left
 ·intro w'; go_simp; with_reducible rfl
 rotate_left; · simp only [Act.put, List.setIfInBounds_toArray, List.set_cons_zero, List.set_cons_succ, i64_w, i32_w]; rfl
 refine one_ (i := 10) (N := some 126) #[true, true, true, true, true, true, true, true, true, true, true] rfl rfl (by kernel_rfl) (by decide) (fun K hK => ?_)
 obtain ⟨r0, r1, r2, c0, c1⟩ := hHeld
 refine goesP_ Tryd.func23 (by kernel_rfl) rfl #[.bool ((a1) == (s.size : Int)), .int .i64 1504] (by rfl) rfl rfl (by simp only [List.map_toArray, List.map_cons, List.map_nil]; rfl) ?_
 with_reducible refine (need_c _ _ _).mono ?_
 rintro e w3 ⟨rfl, (⟨hb, rfl⟩ | ⟨hb, rfl⟩)⟩
 ·exact .inl ⟨_, rfl, rfl, sec_er (by rw [dSec_6, secA_ok X1.out, if_neg (ne_of_beq_false hb)]) rfl r1⟩
 refine .inr ⟨_, rfl, ?_⟩
 have Q0 := am r0
 have Q1 := am r1
 have Q2 := am r2
 have Q3 := am (eq_of_beq hb)
 clear r0 r1 r2
 refine hK.out _ _ ⟨Q0.out, Q1.out, Q2.out, c0, c1⟩ (fun hHeld => ?_)
 clear hK K
 refine norm_ (a' := ?_) ?_ ?_
 rotate_left
 ·show Act.put _ (some 126) _ = _
  simp only [Act.put, List.setIfInBounds_toArray, List.set_cons_zero, List.set_cons_succ, i64_w, i32_w]
  rfl
 refine done_ (by kernel_rfl) ?_
 go_wp2
 go_end0
 exact sec_ok (by rw [dSec_6, secA_ok X1.out, if_pos Q3.out]) rfl Q2.out Q1.out
theorem dSec_7 (s : ByteArray) (m : Mod) : dSec s 7 m = secA s (dList s 1024 (dExport s) 0) fun x => { m with exports := x } := by simp [dSec]
set_option maxHeartbeats 4000000 in
set_option maxRecDepth 100000 in
theorem sec_7 {B g go : Nat} {s : ByteArray} {W : World} {m : Mod} (hB : B ≤ W.heap.size) (hne : g ≠ go) (h2 : 2 ≤ go) (h : RdD g s 0 W) (hm : ModAt B go W m) : Calls Tryd.prog 26 #[.pointer (some ⟨g, 0, none⟩), .int .i64 7, .pointer (some ⟨go, 0, none⟩)] W (SecPost B g go W (dSec s 7 m)) := by
 have R0 := am h
 have HB := am hB
 have NE := am hne
 have H2 := am h2
 obtain ⟨v0, v1, v2, v3, v4, v5, v6, v8, v9, v10, hK, h0, h1, h2, h3, h4, h5, h6, h8, h9, h10⟩ := hm
 have K0 := am hK
 have L0 := am h0
 have L1 := am h1
 have L2 := am h2
 have L3 := am h3
 have L4 := am h4
 have L5 := am h5
 have L6 := am h6
 have L8 := am h8
 have L9 := am h9
 have L10 := am h10
 clear hK h0 h1 h2 h3 h4 h5 h6 h8 h9 h10
 clear h hB hne h2
 go_enter Tryd.func26, Tryd.ntmps26
 go_wp2_with (first
  | (go_at_call 47; (with_reducible refine (list_export_c 1024 (by decide) (dExport s) (fun a W h => export_c h) R0.out).mono ?_); intro e w1 hh; rcases ret_cases hh with ⟨c, hc, rfl, hf⟩ | ⟨xs, a1, v, hx, rfl, hv, hr, hf⟩; (exact ⟨rfl, sec_er (by rw [dSec_7, secA_er hc]) rfl (hf.mono (fun _ hk => .inl hk))⟩); obtain ⟨A, c, rfl⟩ := Kd.R_slice hv; have LN := am (Kd.R_mono hv (fun k hk => Nat.le_trans HB.out hk)); have R1 := am hr; have F1 : Aside0 (Fr W w1 (fun k => k = g ∨ k = go)) := ⟨hf.mono (fun _ hk => .inl hk)⟩; have X1 := am hx; have K1 := am (hf.block K0.out (fun h => NE.out h.symm)); have M0 := am (Kd.R_mono (Kd.R_step (Kd.R_types L0.out R0.out.blk (by decide)) (fun k hk hlt => hf.k.2 k hlt hk.2)) (fun _ hk => hk.1)); have M1 := am (Kd.R_mono (Kd.R_step (Kd.R_types L1.out R0.out.blk (by decide)) (fun k hk hlt => hf.k.2 k hlt hk.2)) (fun _ hk => hk.1)); have M2 := am (Kd.R_mono (Kd.R_step (Kd.R_types L2.out R0.out.blk (by decide)) (fun k hk hlt => hf.k.2 k hlt hk.2)) (fun _ hk => hk.1)); have M3 := am (Kd.R_mono (Kd.R_step (Kd.R_types L3.out R0.out.blk (by decide)) (fun k hk hlt => hf.k.2 k hlt hk.2)) (fun _ hk => hk.1)); have M4 := am (Kd.R_mono (Kd.R_step (Kd.R_types L4.out R0.out.blk (by decide)) (fun k hk hlt => hf.k.2 k hlt hk.2)) (fun _ hk => hk.1)); have M5 := am (Kd.R_mono (Kd.R_step (Kd.R_types L5.out R0.out.blk (by decide)) (fun k hk hlt => hf.k.2 k hlt hk.2)) (fun _ hk => hk.1)); have M6 := am (Kd.R_mono (Kd.R_step (Kd.R_types L6.out R0.out.blk (by decide)) (fun k hk hlt => hf.k.2 k hlt hk.2)) (fun _ hk => hk.1)); have M8 := am (Kd.R_mono (Kd.R_step (Kd.R_types L8.out R0.out.blk (by decide)) (fun k hk hlt => hf.k.2 k hlt hk.2)) (fun _ hk => hk.1)); have M9 := am (Kd.R_mono (Kd.R_step (Kd.R_types L9.out R0.out.blk (by decide)) (fun k hk hlt => hf.k.2 k hlt hk.2)) (fun _ hk => hk.1)); have M10 := am (Kd.R_mono (Kd.R_step (Kd.R_types L10.out R0.out.blk (by decide)) (fun k hk hlt => hf.k.2 k hlt hk.2)) (fun _ hk => hk.1)); clear hh hr hf hx hv K0 R0 L0 L1 L2 L3 L4 L5 L6 L8 L9 L10)
  | ((with_reducible refine gate_store (p := 81) rfl ?_); refine storeCell_event (g := go) (j := 6) (x := .slice A xs.length c) rfl rfl rfl rfl rfl K1.out (by simp) (by kernel_rfl) rfl ?_; intro w2 hA hb ho hs; have R2 := am (rd_ne R1.out (Fr.stored (S := fun k => k = go) hb ho hs rfl) NE.out H2.out); have F2 := am (F1.out.then_ (Fr.stored (S := fun k => k = go) hb ho hs rfl) (fun k hk => .inl (.inr hk))); have N0 := am (Kd.R_mono (Kd.R_step (Kd.R_types M0.out K1.out (by decide)) (fun k hk _ => ho k hk.2)) (fun _ hk => hk.1)); have N1 := am (Kd.R_mono (Kd.R_step (Kd.R_types M1.out K1.out (by decide)) (fun k hk _ => ho k hk.2)) (fun _ hk => hk.1)); have N2 := am (Kd.R_mono (Kd.R_step (Kd.R_types M2.out K1.out (by decide)) (fun k hk _ => ho k hk.2)) (fun _ hk => hk.1)); have N3 := am (Kd.R_mono (Kd.R_step (Kd.R_types M3.out K1.out (by decide)) (fun k hk _ => ho k hk.2)) (fun _ hk => hk.1)); have N4 := am (Kd.R_mono (Kd.R_step (Kd.R_types M4.out K1.out (by decide)) (fun k hk _ => ho k hk.2)) (fun _ hk => hk.1)); have N5 := am (Kd.R_mono (Kd.R_step (Kd.R_types M5.out K1.out (by decide)) (fun k hk _ => ho k hk.2)) (fun _ hk => hk.1)); have N6 := am (Kd.R_mono (Kd.R_step (Kd.R_types M6.out K1.out (by decide)) (fun k hk _ => ho k hk.2)) (fun _ hk => hk.1)); have N8 := am (Kd.R_mono (Kd.R_step (Kd.R_types M8.out K1.out (by decide)) (fun k hk _ => ho k hk.2)) (fun _ hk => hk.1)); have N9 := am (Kd.R_mono (Kd.R_step (Kd.R_types M9.out K1.out (by decide)) (fun k hk _ => ho k hk.2)) (fun _ hk => hk.1)); have N10 := am (Kd.R_mono (Kd.R_step (Kd.R_types M10.out K1.out (by decide)) (fun k hk _ => ho k hk.2)) (fun _ hk => hk.1)); have LN2 := am (Kd.R_mono (Kd.R_step (Kd.R_types LN.out K1.out (by decide)) (fun k hk _ => ho k hk.2)) (fun _ hk => hk.1)); have MO2 : Aside0 (ModAt B go w2 { m with exports := xs }) := ⟨v0, v1, v2, v3, v4, v5, _, v8, v9, v10, hA, N0.out, N1.out, N2.out, N3.out, N4.out, N5.out, LN2.out, N8.out, N9.out, N10.out⟩; have c0 : w2.cell? ⟨g, 0, none⟩ = some (.string s) := blk_cell R2.out.blk 0; have c1 : w2.cell? ⟨g, 1, none⟩ = some (.int .i64 a1) := blk_cell R2.out.blk 1; clear hA hb ho hs K1 R1 F1 LN LN2 M0 N0 M1 N1 M2 N2 M3 N3 M4 N4 M5 N5 M6 N6 M8 N8 M9 N9 M10 N10))
 refine start_ (n := 11) (S := fun w' => RdD g s (a1) w' ∧ Fr W w' (fun k => k = g ∨ k = go) ∧ ModAt B go w' { m with exports := xs } ∧ w'.cell? ⟨g, 0, none⟩ = some (.string s) ∧ w'.cell? ⟨g, 1, none⟩ = some (.int .i64 (a1))) (ds := []) #[false, false, false, false, false, false, false, false, false, false, false] (by kernel_rfl) rfl rfl ⟨rd_drew R2.out, F2.out.drew, mod_below MO2.out (below_drew (Below.refl _ _)), c0, c1⟩ (fun hHeld => ?_)
 refine pu (i := 0) (N := some 116) (v := ?_) (a' := ?_) rfl rfl (by kernel_rfl) (fun _ _ _ h => h) (.inl ⟨by rfl, ?_⟩) ?_ ?_; rotate_left
 ·intro w'; go_simp; with_reducible rfl
 rotate_left; · simp only [Act.put, List.setIfInBounds_toArray, List.set_cons_zero, List.set_cons_succ, i64_w, i32_w]; rfl
 refine pu (i := 1) (N := some 117) (v := ?_) (a' := ?_) rfl rfl (by kernel_rfl) (fun _ _ _ h => h) (.inl ⟨by rfl, ?_⟩) ?_ ?_; rotate_left
 ·intro w'; go_simp; with_reducible rfl
 rotate_left; · simp only [Act.put, List.setIfInBounds_toArray, List.set_cons_zero, List.set_cons_succ, i64_w, i32_w]; rfl
 refine pu (i := 2) (N := some 118) (v := ?_) (a' := ?_) rfl rfl (by kernel_rfl) (fun _ _ _ h => h) (.inl ⟨by rfl, ?_⟩) ?_ ?_; rotate_left
 ·intro w'; go_simp; with_reducible rfl
 rotate_left; · simp only [Act.put, List.setIfInBounds_toArray, List.set_cons_zero, List.set_cons_succ, i64_w, i32_w]; rfl
 refine pu (i := 4) (N := some 120) (v := ?_) (a' := ?_) rfl rfl (by kernel_rfl) (fun _ _ _ h => h) (.inl ⟨by rfl, ?_⟩) ?_ ?_; rotate_left
 ·intro w'; go_simp; with_reducible rfl
 rotate_left; · simp only [Act.put, List.setIfInBounds_toArray, List.set_cons_zero, List.set_cons_succ, i64_w, i32_w]; rfl
 refine pu (i := 5) (N := some 121) (v := ?_) (a' := ?_) rfl rfl (by kernel_rfl) (fun _ _ _ h => h) (.inl ⟨by rfl, ?_⟩) ?_ ?_; rotate_left
 ·intro w'; go_simp; with_reducible rfl
 rotate_left; · simp only [Act.put, List.setIfInBounds_toArray, List.set_cons_zero, List.set_cons_succ, i64_w, i32_w]; rfl
 refine pu (i := 6) (N := some 122) (v := ?_) (a' := ?_) rfl rfl (by kernel_rfl) (fun _ _ _ h => h) (.inl ⟨by rfl, ?_⟩) ?_ ?_; rotate_left
 ·intro w'; go_simp; with_reducible rfl
 rotate_left; · simp only [Act.put, List.setIfInBounds_toArray, List.set_cons_zero, List.set_cons_succ, i64_w, i32_w]; rfl
 refine tu (i := 3) (N := some 119) (v := ?_) (a' := ?_) rfl rfl (by kernel_rfl) (fun _ _ _ h => h) (.inl ⟨by rfl, ?_⟩) hHeld ?_ ?_; rotate_left
 ·rintro w' ⟨s0, s1, s2, s3, s4⟩; go_simp; with_reducible rfl
 rotate_left; · simp only [Act.put, List.setIfInBounds_toArray, List.set_cons_zero, List.set_cons_succ, i64_w, i32_w]; rfl
 refine tu (i := 7) (N := some 123) (v := ?_) (a' := ?_) rfl rfl (by kernel_rfl) (fun _ _ _ h => h) (.inl ⟨by rfl, ?_⟩) hHeld ?_ ?_; rotate_left
 ·rintro w' ⟨s0, s1, s2, s3, s4⟩; go_simp; with_reducible rfl
 rotate_left; · simp only [Act.put, List.setIfInBounds_toArray, List.set_cons_zero, List.set_cons_succ, i64_w, i32_w]; rfl
 refine pu (i := 8) (N := some 124) (v := ?_) (a' := ?_) rfl rfl (by kernel_rfl) (fun _ _ _ h => h) (.inl ⟨by rfl, ?_⟩) ?_ ?_; rotate_left
 ·intro w'; go_simp; with_reducible rfl
 rotate_left; · simp only [Act.put, List.setIfInBounds_toArray, List.set_cons_zero, List.set_cons_succ, i64_w, i32_w]; rfl
 refine pu (i := 9) (N := some 125) (v := ?_) (a' := ?_) rfl rfl (by kernel_rfl) (fun _ _ _ h => h) (.inl ⟨by rfl, ?_⟩) ?_ ?_; rotate_left
 ·intro w'; go_simp; with_reducible rfl
 rotate_left; · simp only [Act.put, List.setIfInBounds_toArray, List.set_cons_zero, List.set_cons_succ, i64_w, i32_w]; rfl
 refine one_ (i := 10) (N := some 126) #[true, true, true, true, true, true, true, true, true, true, true] rfl rfl (by kernel_rfl) (by decide) (fun K hK => ?_)
 obtain ⟨r0, r1, r2, c0, c1⟩ := hHeld
 refine goesP_ Tryd.func23 (by kernel_rfl) rfl #[.bool ((a1) == (s.size : Int)), .int .i64 1504] (by rfl) rfl rfl (by simp only [List.map_toArray, List.map_cons, List.map_nil]; rfl) ?_
 with_reducible refine (need_c _ _ _).mono ?_
 rintro e w3 ⟨rfl, (⟨hb, rfl⟩ | ⟨hb, rfl⟩)⟩
 ·exact .inl ⟨_, rfl, rfl, sec_er (by rw [dSec_7, secA_ok X1.out, if_neg (ne_of_beq_false hb)]) rfl r1⟩
 refine .inr ⟨_, rfl, ?_⟩
 have Q0 := am r0
 have Q1 := am r1
 have Q2 := am r2
 have Q3 := am (eq_of_beq hb)
 clear r0 r1 r2
 refine hK.out _ _ ⟨Q0.out, Q1.out, Q2.out, c0, c1⟩ (fun hHeld => ?_)
 clear hK K
 refine norm_ (a' := ?_) ?_ ?_
 rotate_left
 ·show Act.put _ (some 126) _ = _
  simp only [Act.put, List.setIfInBounds_toArray, List.set_cons_zero, List.set_cons_succ, i64_w, i32_w]
  rfl
 refine done_ (by kernel_rfl) ?_
 go_wp2
 go_end0
 exact sec_ok (by rw [dSec_7, secA_ok X1.out, if_pos Q3.out]) rfl Q2.out Q1.out
theorem dSec_8 (s : ByteArray) (m : Mod) : dSec s 8 m = secA s (dNum s 0) fun x => { m with start := x } := by simp [dSec]
set_option maxHeartbeats 4000000 in
set_option maxRecDepth 100000 in
theorem sec_8 {B g go : Nat} {s : ByteArray} {W : World} {m : Mod} (hB : B ≤ W.heap.size) (hne : g ≠ go) (h2 : 2 ≤ go) (h : RdD g s 0 W) (hm : ModAt B go W m) : Calls Tryd.prog 26 #[.pointer (some ⟨g, 0, none⟩), .int .i64 8, .pointer (some ⟨go, 0, none⟩)] W (SecPost B g go W (dSec s 8 m)) := by
 have R0 := am h
 have HB := am hB
 have NE := am hne
 have H2 := am h2
 obtain ⟨v0, v1, v2, v3, v4, v5, v6, v8, v9, v10, hK, h0, h1, h2, h3, h4, h5, h6, h8, h9, h10⟩ := hm
 have K0 := am hK
 have L0 := am h0
 have L1 := am h1
 have L2 := am h2
 have L3 := am h3
 have L4 := am h4
 have L5 := am h5
 have L6 := am h6
 have L8 := am h8
 have L9 := am h9
 have L10 := am h10
 clear hK h0 h1 h2 h3 h4 h5 h6 h8 h9 h10
 clear h hB hne h2
 go_enter Tryd.func26, Tryd.ntmps26
 go_wp2_with (first
  | (go_at_call 41; (with_reducible refine (number_c R0.out).mono ?_); intro e w1 hh; rcases ret_cases hh with ⟨c, hc, rfl, hf⟩ | ⟨xs, a1, v, hx, rfl, hv, hr, hf⟩; (exact ⟨rfl, sec_er (by rw [dSec_8, secA_er hc]) rfl (hf.mono (fun _ hk => .inl hk))⟩); (have hv : v = .int .i64 xs := hv); subst hv; have hv := 0; have R1 := am hr; have F1 : Aside0 (Fr W w1 (fun k => k = g ∨ k = go)) := ⟨hf.mono (fun _ hk => .inl hk)⟩; have X1 := am hx; have K1 := am (hf.block K0.out (fun h => NE.out h.symm)); have M0 := am (Kd.R_mono (Kd.R_step (Kd.R_types L0.out R0.out.blk (by decide)) (fun k hk hlt => hf.k.2 k hlt hk.2)) (fun _ hk => hk.1)); have M1 := am (Kd.R_mono (Kd.R_step (Kd.R_types L1.out R0.out.blk (by decide)) (fun k hk hlt => hf.k.2 k hlt hk.2)) (fun _ hk => hk.1)); have M2 := am (Kd.R_mono (Kd.R_step (Kd.R_types L2.out R0.out.blk (by decide)) (fun k hk hlt => hf.k.2 k hlt hk.2)) (fun _ hk => hk.1)); have M3 := am (Kd.R_mono (Kd.R_step (Kd.R_types L3.out R0.out.blk (by decide)) (fun k hk hlt => hf.k.2 k hlt hk.2)) (fun _ hk => hk.1)); have M4 := am (Kd.R_mono (Kd.R_step (Kd.R_types L4.out R0.out.blk (by decide)) (fun k hk hlt => hf.k.2 k hlt hk.2)) (fun _ hk => hk.1)); have M5 := am (Kd.R_mono (Kd.R_step (Kd.R_types L5.out R0.out.blk (by decide)) (fun k hk hlt => hf.k.2 k hlt hk.2)) (fun _ hk => hk.1)); have M6 := am (Kd.R_mono (Kd.R_step (Kd.R_types L6.out R0.out.blk (by decide)) (fun k hk hlt => hf.k.2 k hlt hk.2)) (fun _ hk => hk.1)); have M8 := am (Kd.R_mono (Kd.R_step (Kd.R_types L8.out R0.out.blk (by decide)) (fun k hk hlt => hf.k.2 k hlt hk.2)) (fun _ hk => hk.1)); have M9 := am (Kd.R_mono (Kd.R_step (Kd.R_types L9.out R0.out.blk (by decide)) (fun k hk hlt => hf.k.2 k hlt hk.2)) (fun _ hk => hk.1)); have M10 := am (Kd.R_mono (Kd.R_step (Kd.R_types L10.out R0.out.blk (by decide)) (fun k hk hlt => hf.k.2 k hlt hk.2)) (fun _ hk => hk.1)); clear hh hr hf hx hv K0 R0 L0 L1 L2 L3 L4 L5 L6 L8 L9 L10)
  | ((with_reducible refine gate_store (p := 88) rfl ?_); refine storeCell_event (g := go) (j := 7) (x := .int .i64 xs) rfl rfl rfl rfl rfl K1.out (by simp) (by kernel_rfl) rfl ?_; intro w2 hA hb ho hs; have R2 := am (rd_ne R1.out (Fr.stored (S := fun k => k = go) hb ho hs rfl) NE.out H2.out); have F2 := am (F1.out.then_ (Fr.stored (S := fun k => k = go) hb ho hs rfl) (fun k hk => .inl (.inr hk))); have N0 := am (Kd.R_mono (Kd.R_step (Kd.R_types M0.out K1.out (by decide)) (fun k hk _ => ho k hk.2)) (fun _ hk => hk.1)); have N1 := am (Kd.R_mono (Kd.R_step (Kd.R_types M1.out K1.out (by decide)) (fun k hk _ => ho k hk.2)) (fun _ hk => hk.1)); have N2 := am (Kd.R_mono (Kd.R_step (Kd.R_types M2.out K1.out (by decide)) (fun k hk _ => ho k hk.2)) (fun _ hk => hk.1)); have N3 := am (Kd.R_mono (Kd.R_step (Kd.R_types M3.out K1.out (by decide)) (fun k hk _ => ho k hk.2)) (fun _ hk => hk.1)); have N4 := am (Kd.R_mono (Kd.R_step (Kd.R_types M4.out K1.out (by decide)) (fun k hk _ => ho k hk.2)) (fun _ hk => hk.1)); have N5 := am (Kd.R_mono (Kd.R_step (Kd.R_types M5.out K1.out (by decide)) (fun k hk _ => ho k hk.2)) (fun _ hk => hk.1)); have N6 := am (Kd.R_mono (Kd.R_step (Kd.R_types M6.out K1.out (by decide)) (fun k hk _ => ho k hk.2)) (fun _ hk => hk.1)); have N8 := am (Kd.R_mono (Kd.R_step (Kd.R_types M8.out K1.out (by decide)) (fun k hk _ => ho k hk.2)) (fun _ hk => hk.1)); have N9 := am (Kd.R_mono (Kd.R_step (Kd.R_types M9.out K1.out (by decide)) (fun k hk _ => ho k hk.2)) (fun _ hk => hk.1)); have N10 := am (Kd.R_mono (Kd.R_step (Kd.R_types M10.out K1.out (by decide)) (fun k hk _ => ho k hk.2)) (fun _ hk => hk.1)); have MO2 : Aside0 (ModAt B go w2 { m with start := xs }) := ⟨v0, v1, v2, v3, v4, v5, v6, v8, v9, v10, hA, N0.out, N1.out, N2.out, N3.out, N4.out, N5.out, N6.out, N8.out, N9.out, N10.out⟩; have c0 : w2.cell? ⟨g, 0, none⟩ = some (.string s) := blk_cell R2.out.blk 0; have c1 : w2.cell? ⟨g, 1, none⟩ = some (.int .i64 a1) := blk_cell R2.out.blk 1; clear hA hb ho hs K1 R1 F1 M0 N0 M1 N1 M2 N2 M3 N3 M4 N4 M5 N5 M6 N6 M8 N8 M9 N9 M10 N10))
 refine start_ (n := 11) (S := fun w' => RdD g s (a1) w' ∧ Fr W w' (fun k => k = g ∨ k = go) ∧ ModAt B go w' { m with start := xs } ∧ w'.cell? ⟨g, 0, none⟩ = some (.string s) ∧ w'.cell? ⟨g, 1, none⟩ = some (.int .i64 (a1))) (ds := []) #[false, false, false, false, false, false, false, false, false, false, false] (by kernel_rfl) rfl rfl ⟨rd_drew R2.out, F2.out.drew, mod_below MO2.out (below_drew (Below.refl _ _)), c0, c1⟩ (fun hHeld => ?_)
 refine pu (i := 0) (N := some 116) (v := ?_) (a' := ?_) rfl rfl (by kernel_rfl) (fun _ _ _ h => h) (.inl ⟨by rfl, ?_⟩) ?_ ?_; rotate_left
 ·intro w'; go_simp; with_reducible rfl
 rotate_left; · simp only [Act.put, List.setIfInBounds_toArray, List.set_cons_zero, List.set_cons_succ, i64_w, i32_w]; rfl
 refine pu (i := 1) (N := some 117) (v := ?_) (a' := ?_) rfl rfl (by kernel_rfl) (fun _ _ _ h => h) (.inl ⟨by rfl, ?_⟩) ?_ ?_; rotate_left
 ·intro w'; go_simp; with_reducible rfl
 rotate_left; · simp only [Act.put, List.setIfInBounds_toArray, List.set_cons_zero, List.set_cons_succ, i64_w, i32_w]; rfl
 refine pu (i := 2) (N := some 118) (v := ?_) (a' := ?_) rfl rfl (by kernel_rfl) (fun _ _ _ h => h) (.inl ⟨by rfl, ?_⟩) ?_ ?_; rotate_left
 ·intro w'; go_simp; with_reducible rfl
 rotate_left; · simp only [Act.put, List.setIfInBounds_toArray, List.set_cons_zero, List.set_cons_succ, i64_w, i32_w]; rfl
 refine pu (i := 4) (N := some 120) (v := ?_) (a' := ?_) rfl rfl (by kernel_rfl) (fun _ _ _ h => h) (.inl ⟨by rfl, ?_⟩) ?_ ?_; rotate_left
 ·intro w'; go_simp; with_reducible rfl
 rotate_left; · simp only [Act.put, List.setIfInBounds_toArray, List.set_cons_zero, List.set_cons_succ, i64_w, i32_w]; rfl
 refine pu (i := 5) (N := some 121) (v := ?_) (a' := ?_) rfl rfl (by kernel_rfl) (fun _ _ _ h => h) (.inl ⟨by rfl, ?_⟩) ?_ ?_; rotate_left
 ·intro w'; go_simp; with_reducible rfl
 rotate_left; · simp only [Act.put, List.setIfInBounds_toArray, List.set_cons_zero, List.set_cons_succ, i64_w, i32_w]; rfl
 refine pu (i := 6) (N := some 122) (v := ?_) (a' := ?_) rfl rfl (by kernel_rfl) (fun _ _ _ h => h) (.inl ⟨by rfl, ?_⟩) ?_ ?_; rotate_left
 ·intro w'; go_simp; with_reducible rfl
 rotate_left; · simp only [Act.put, List.setIfInBounds_toArray, List.set_cons_zero, List.set_cons_succ, i64_w, i32_w]; rfl
 refine tu (i := 3) (N := some 119) (v := ?_) (a' := ?_) rfl rfl (by kernel_rfl) (fun _ _ _ h => h) (.inl ⟨by rfl, ?_⟩) hHeld ?_ ?_; rotate_left
 ·rintro w' ⟨s0, s1, s2, s3, s4⟩; go_simp; with_reducible rfl
 rotate_left; · simp only [Act.put, List.setIfInBounds_toArray, List.set_cons_zero, List.set_cons_succ, i64_w, i32_w]; rfl
 refine tu (i := 7) (N := some 123) (v := ?_) (a' := ?_) rfl rfl (by kernel_rfl) (fun _ _ _ h => h) (.inl ⟨by rfl, ?_⟩) hHeld ?_ ?_; rotate_left
 ·rintro w' ⟨s0, s1, s2, s3, s4⟩; go_simp; with_reducible rfl
 rotate_left; · simp only [Act.put, List.setIfInBounds_toArray, List.set_cons_zero, List.set_cons_succ, i64_w, i32_w]; rfl
 refine pu (i := 8) (N := some 124) (v := ?_) (a' := ?_) rfl rfl (by kernel_rfl) (fun _ _ _ h => h) (.inl ⟨by rfl, ?_⟩) ?_ ?_; rotate_left
 ·intro w'; go_simp; with_reducible rfl
 rotate_left; · simp only [Act.put, List.setIfInBounds_toArray, List.set_cons_zero, List.set_cons_succ, i64_w, i32_w]; rfl
 refine pu (i := 9) (N := some 125) (v := ?_) (a' := ?_) rfl rfl (by kernel_rfl) (fun _ _ _ h => h) (.inl ⟨by rfl, ?_⟩) ?_ ?_; rotate_left
 ·intro w'; go_simp; with_reducible rfl
 rotate_left; · simp only [Act.put, List.setIfInBounds_toArray, List.set_cons_zero, List.set_cons_succ, i64_w, i32_w]; rfl
 refine one_ (i := 10) (N := some 126) #[true, true, true, true, true, true, true, true, true, true, true] rfl rfl (by kernel_rfl) (by decide) (fun K hK => ?_)
 obtain ⟨r0, r1, r2, c0, c1⟩ := hHeld
 refine goesP_ Tryd.func23 (by kernel_rfl) rfl #[.bool ((a1) == (s.size : Int)), .int .i64 1504] (by rfl) rfl rfl (by simp only [List.map_toArray, List.map_cons, List.map_nil]; rfl) ?_
 with_reducible refine (need_c _ _ _).mono ?_
 rintro e w3 ⟨rfl, (⟨hb, rfl⟩ | ⟨hb, rfl⟩)⟩
 ·exact .inl ⟨_, rfl, rfl, sec_er (by rw [dSec_8, secA_ok X1.out, if_neg (ne_of_beq_false hb)]) rfl r1⟩
 refine .inr ⟨_, rfl, ?_⟩
 have Q0 := am r0
 have Q1 := am r1
 have Q2 := am r2
 have Q3 := am (eq_of_beq hb)
 clear r0 r1 r2
 refine hK.out _ _ ⟨Q0.out, Q1.out, Q2.out, c0, c1⟩ (fun hHeld => ?_)
 clear hK K
 refine norm_ (a' := ?_) ?_ ?_
 rotate_left
 ·show Act.put _ (some 126) _ = _
  simp only [Act.put, List.setIfInBounds_toArray, List.set_cons_zero, List.set_cons_succ, i64_w, i32_w]
  rfl
 refine done_ (by kernel_rfl) ?_
 go_wp2
 go_end0
 exact sec_ok (by rw [dSec_8, secA_ok X1.out, if_pos Q3.out]) rfl Q2.out Q1.out
theorem dSec_9 (s : ByteArray) (m : Mod) : dSec s 9 m = secA s (dList s 1024 (dElem s) 0) fun x => { m with elems := x } := by simp [dSec]
set_option maxHeartbeats 4000000 in
set_option maxRecDepth 100000 in
theorem sec_9 {B g go : Nat} {s : ByteArray} {W : World} {m : Mod} (hB : B ≤ W.heap.size) (hne : g ≠ go) (h2 : 2 ≤ go) (h : RdD g s 0 W) (hm : ModAt B go W m) : Calls Tryd.prog 26 #[.pointer (some ⟨g, 0, none⟩), .int .i64 9, .pointer (some ⟨go, 0, none⟩)] W (SecPost B g go W (dSec s 9 m)) := by
 have R0 := am h
 have HB := am hB
 have NE := am hne
 have H2 := am h2
 obtain ⟨v0, v1, v2, v3, v4, v5, v6, v8, v9, v10, hK, h0, h1, h2, h3, h4, h5, h6, h8, h9, h10⟩ := hm
 have K0 := am hK
 have L0 := am h0
 have L1 := am h1
 have L2 := am h2
 have L3 := am h3
 have L4 := am h4
 have L5 := am h5
 have L6 := am h6
 have L8 := am h8
 have L9 := am h9
 have L10 := am h10
 clear hK h0 h1 h2 h3 h4 h5 h6 h8 h9 h10
 clear h hB hne h2
 go_enter Tryd.func26, Tryd.ntmps26
 go_wp2_with (first
  | (go_at_call 49; (with_reducible refine (list_elem_c 1024 (by decide) (dElem s) (fun a W h => elem_c h) R0.out).mono ?_); intro e w1 hh; rcases ret_cases hh with ⟨c, hc, rfl, hf⟩ | ⟨xs, a1, v, hx, rfl, hv, hr, hf⟩; (exact ⟨rfl, sec_er (by rw [dSec_9, secA_er hc]) rfl (hf.mono (fun _ hk => .inl hk))⟩); obtain ⟨A, c, rfl⟩ := Kd.R_slice hv; have LN := am (Kd.R_mono hv (fun k hk => Nat.le_trans HB.out hk)); have R1 := am hr; have F1 : Aside0 (Fr W w1 (fun k => k = g ∨ k = go)) := ⟨hf.mono (fun _ hk => .inl hk)⟩; have X1 := am hx; have K1 := am (hf.block K0.out (fun h => NE.out h.symm)); have M0 := am (Kd.R_mono (Kd.R_step (Kd.R_types L0.out R0.out.blk (by decide)) (fun k hk hlt => hf.k.2 k hlt hk.2)) (fun _ hk => hk.1)); have M1 := am (Kd.R_mono (Kd.R_step (Kd.R_types L1.out R0.out.blk (by decide)) (fun k hk hlt => hf.k.2 k hlt hk.2)) (fun _ hk => hk.1)); have M2 := am (Kd.R_mono (Kd.R_step (Kd.R_types L2.out R0.out.blk (by decide)) (fun k hk hlt => hf.k.2 k hlt hk.2)) (fun _ hk => hk.1)); have M3 := am (Kd.R_mono (Kd.R_step (Kd.R_types L3.out R0.out.blk (by decide)) (fun k hk hlt => hf.k.2 k hlt hk.2)) (fun _ hk => hk.1)); have M4 := am (Kd.R_mono (Kd.R_step (Kd.R_types L4.out R0.out.blk (by decide)) (fun k hk hlt => hf.k.2 k hlt hk.2)) (fun _ hk => hk.1)); have M5 := am (Kd.R_mono (Kd.R_step (Kd.R_types L5.out R0.out.blk (by decide)) (fun k hk hlt => hf.k.2 k hlt hk.2)) (fun _ hk => hk.1)); have M6 := am (Kd.R_mono (Kd.R_step (Kd.R_types L6.out R0.out.blk (by decide)) (fun k hk hlt => hf.k.2 k hlt hk.2)) (fun _ hk => hk.1)); have M8 := am (Kd.R_mono (Kd.R_step (Kd.R_types L8.out R0.out.blk (by decide)) (fun k hk hlt => hf.k.2 k hlt hk.2)) (fun _ hk => hk.1)); have M9 := am (Kd.R_mono (Kd.R_step (Kd.R_types L9.out R0.out.blk (by decide)) (fun k hk hlt => hf.k.2 k hlt hk.2)) (fun _ hk => hk.1)); have M10 := am (Kd.R_mono (Kd.R_step (Kd.R_types L10.out R0.out.blk (by decide)) (fun k hk hlt => hf.k.2 k hlt hk.2)) (fun _ hk => hk.1)); clear hh hr hf hx hv K0 R0 L0 L1 L2 L3 L4 L5 L6 L8 L9 L10)
  | ((with_reducible refine gate_store (p := 97) rfl ?_); refine storeCell_event (g := go) (j := 8) (x := .slice A xs.length c) rfl rfl rfl rfl rfl K1.out (by simp) (by kernel_rfl) rfl ?_; intro w2 hA hb ho hs; have R2 := am (rd_ne R1.out (Fr.stored (S := fun k => k = go) hb ho hs rfl) NE.out H2.out); have F2 := am (F1.out.then_ (Fr.stored (S := fun k => k = go) hb ho hs rfl) (fun k hk => .inl (.inr hk))); have N0 := am (Kd.R_mono (Kd.R_step (Kd.R_types M0.out K1.out (by decide)) (fun k hk _ => ho k hk.2)) (fun _ hk => hk.1)); have N1 := am (Kd.R_mono (Kd.R_step (Kd.R_types M1.out K1.out (by decide)) (fun k hk _ => ho k hk.2)) (fun _ hk => hk.1)); have N2 := am (Kd.R_mono (Kd.R_step (Kd.R_types M2.out K1.out (by decide)) (fun k hk _ => ho k hk.2)) (fun _ hk => hk.1)); have N3 := am (Kd.R_mono (Kd.R_step (Kd.R_types M3.out K1.out (by decide)) (fun k hk _ => ho k hk.2)) (fun _ hk => hk.1)); have N4 := am (Kd.R_mono (Kd.R_step (Kd.R_types M4.out K1.out (by decide)) (fun k hk _ => ho k hk.2)) (fun _ hk => hk.1)); have N5 := am (Kd.R_mono (Kd.R_step (Kd.R_types M5.out K1.out (by decide)) (fun k hk _ => ho k hk.2)) (fun _ hk => hk.1)); have N6 := am (Kd.R_mono (Kd.R_step (Kd.R_types M6.out K1.out (by decide)) (fun k hk _ => ho k hk.2)) (fun _ hk => hk.1)); have N8 := am (Kd.R_mono (Kd.R_step (Kd.R_types M8.out K1.out (by decide)) (fun k hk _ => ho k hk.2)) (fun _ hk => hk.1)); have N9 := am (Kd.R_mono (Kd.R_step (Kd.R_types M9.out K1.out (by decide)) (fun k hk _ => ho k hk.2)) (fun _ hk => hk.1)); have N10 := am (Kd.R_mono (Kd.R_step (Kd.R_types M10.out K1.out (by decide)) (fun k hk _ => ho k hk.2)) (fun _ hk => hk.1)); have LN2 := am (Kd.R_mono (Kd.R_step (Kd.R_types LN.out K1.out (by decide)) (fun k hk _ => ho k hk.2)) (fun _ hk => hk.1)); have MO2 : Aside0 (ModAt B go w2 { m with elems := xs }) := ⟨v0, v1, v2, v3, v4, v5, v6, _, v9, v10, hA, N0.out, N1.out, N2.out, N3.out, N4.out, N5.out, N6.out, LN2.out, N9.out, N10.out⟩; have c0 : w2.cell? ⟨g, 0, none⟩ = some (.string s) := blk_cell R2.out.blk 0; have c1 : w2.cell? ⟨g, 1, none⟩ = some (.int .i64 a1) := blk_cell R2.out.blk 1; clear hA hb ho hs K1 R1 F1 LN LN2 M0 N0 M1 N1 M2 N2 M3 N3 M4 N4 M5 N5 M6 N6 M8 N8 M9 N9 M10 N10))
 refine start_ (n := 11) (S := fun w' => RdD g s (a1) w' ∧ Fr W w' (fun k => k = g ∨ k = go) ∧ ModAt B go w' { m with elems := xs } ∧ w'.cell? ⟨g, 0, none⟩ = some (.string s) ∧ w'.cell? ⟨g, 1, none⟩ = some (.int .i64 (a1))) (ds := []) #[false, false, false, false, false, false, false, false, false, false, false] (by kernel_rfl) rfl rfl ⟨rd_drew R2.out, F2.out.drew, mod_below MO2.out (below_drew (Below.refl _ _)), c0, c1⟩ (fun hHeld => ?_)
 refine pu (i := 0) (N := some 116) (v := ?_) (a' := ?_) rfl rfl (by kernel_rfl) (fun _ _ _ h => h) (.inl ⟨by rfl, ?_⟩) ?_ ?_; rotate_left
 ·intro w'; go_simp; with_reducible rfl
 rotate_left; · simp only [Act.put, List.setIfInBounds_toArray, List.set_cons_zero, List.set_cons_succ, i64_w, i32_w]; rfl
 refine pu (i := 1) (N := some 117) (v := ?_) (a' := ?_) rfl rfl (by kernel_rfl) (fun _ _ _ h => h) (.inl ⟨by rfl, ?_⟩) ?_ ?_; rotate_left
 ·intro w'; go_simp; with_reducible rfl
 rotate_left; · simp only [Act.put, List.setIfInBounds_toArray, List.set_cons_zero, List.set_cons_succ, i64_w, i32_w]; rfl
 refine pu (i := 2) (N := some 118) (v := ?_) (a' := ?_) rfl rfl (by kernel_rfl) (fun _ _ _ h => h) (.inl ⟨by rfl, ?_⟩) ?_ ?_; rotate_left
 ·intro w'; go_simp; with_reducible rfl
 rotate_left; · simp only [Act.put, List.setIfInBounds_toArray, List.set_cons_zero, List.set_cons_succ, i64_w, i32_w]; rfl
 refine pu (i := 4) (N := some 120) (v := ?_) (a' := ?_) rfl rfl (by kernel_rfl) (fun _ _ _ h => h) (.inl ⟨by rfl, ?_⟩) ?_ ?_; rotate_left
 ·intro w'; go_simp; with_reducible rfl
 rotate_left; · simp only [Act.put, List.setIfInBounds_toArray, List.set_cons_zero, List.set_cons_succ, i64_w, i32_w]; rfl
 refine pu (i := 5) (N := some 121) (v := ?_) (a' := ?_) rfl rfl (by kernel_rfl) (fun _ _ _ h => h) (.inl ⟨by rfl, ?_⟩) ?_ ?_; rotate_left
 ·intro w'; go_simp; with_reducible rfl
 rotate_left; · simp only [Act.put, List.setIfInBounds_toArray, List.set_cons_zero, List.set_cons_succ, i64_w, i32_w]; rfl
 refine pu (i := 6) (N := some 122) (v := ?_) (a' := ?_) rfl rfl (by kernel_rfl) (fun _ _ _ h => h) (.inl ⟨by rfl, ?_⟩) ?_ ?_; rotate_left
 ·intro w'; go_simp; with_reducible rfl
 rotate_left; · simp only [Act.put, List.setIfInBounds_toArray, List.set_cons_zero, List.set_cons_succ, i64_w, i32_w]; rfl
 refine tu (i := 3) (N := some 119) (v := ?_) (a' := ?_) rfl rfl (by kernel_rfl) (fun _ _ _ h => h) (.inl ⟨by rfl, ?_⟩) hHeld ?_ ?_; rotate_left
 ·rintro w' ⟨s0, s1, s2, s3, s4⟩; go_simp; with_reducible rfl
 rotate_left; · simp only [Act.put, List.setIfInBounds_toArray, List.set_cons_zero, List.set_cons_succ, i64_w, i32_w]; rfl
 refine tu (i := 7) (N := some 123) (v := ?_) (a' := ?_) rfl rfl (by kernel_rfl) (fun _ _ _ h => h) (.inl ⟨by rfl, ?_⟩) hHeld ?_ ?_; rotate_left
 ·rintro w' ⟨s0, s1, s2, s3, s4⟩; go_simp; with_reducible rfl
 rotate_left; · simp only [Act.put, List.setIfInBounds_toArray, List.set_cons_zero, List.set_cons_succ, i64_w, i32_w]; rfl
 refine pu (i := 8) (N := some 124) (v := ?_) (a' := ?_) rfl rfl (by kernel_rfl) (fun _ _ _ h => h) (.inl ⟨by rfl, ?_⟩) ?_ ?_; rotate_left
 ·intro w'; go_simp; with_reducible rfl
 rotate_left; · simp only [Act.put, List.setIfInBounds_toArray, List.set_cons_zero, List.set_cons_succ, i64_w, i32_w]; rfl
 refine pu (i := 9) (N := some 125) (v := ?_) (a' := ?_) rfl rfl (by kernel_rfl) (fun _ _ _ h => h) (.inl ⟨by rfl, ?_⟩) ?_ ?_; rotate_left
 ·intro w'; go_simp; with_reducible rfl
 rotate_left; · simp only [Act.put, List.setIfInBounds_toArray, List.set_cons_zero, List.set_cons_succ, i64_w, i32_w]; rfl
 refine one_ (i := 10) (N := some 126) #[true, true, true, true, true, true, true, true, true, true, true] rfl rfl (by kernel_rfl) (by decide) (fun K hK => ?_)
 obtain ⟨r0, r1, r2, c0, c1⟩ := hHeld
 refine goesP_ Tryd.func23 (by kernel_rfl) rfl #[.bool ((a1) == (s.size : Int)), .int .i64 1504] (by rfl) rfl rfl (by simp only [List.map_toArray, List.map_cons, List.map_nil]; rfl) ?_
 with_reducible refine (need_c _ _ _).mono ?_
 rintro e w3 ⟨rfl, (⟨hb, rfl⟩ | ⟨hb, rfl⟩)⟩
 ·exact .inl ⟨_, rfl, rfl, sec_er (by rw [dSec_9, secA_ok X1.out, if_neg (ne_of_beq_false hb)]) rfl r1⟩
 refine .inr ⟨_, rfl, ?_⟩
 have Q0 := am r0
 have Q1 := am r1
 have Q2 := am r2
 have Q3 := am (eq_of_beq hb)
 clear r0 r1 r2
 refine hK.out _ _ ⟨Q0.out, Q1.out, Q2.out, c0, c1⟩ (fun hHeld => ?_)
 clear hK K
 refine norm_ (a' := ?_) ?_ ?_
 rotate_left
 ·show Act.put _ (some 126) _ = _
  simp only [Act.put, List.setIfInBounds_toArray, List.set_cons_zero, List.set_cons_succ, i64_w, i32_w]
  rfl
 refine done_ (by kernel_rfl) ?_
 go_wp2
 go_end0
 exact sec_ok (by rw [dSec_9, secA_ok X1.out, if_pos Q3.out]) rfl Q2.out Q1.out
theorem dSec_10 (s : ByteArray) (m : Mod) : dSec s 10 m = secA s (dList s 256 (dCode s) 0) fun x => { m with codes := x } := by simp [dSec]
set_option maxHeartbeats 4000000 in
set_option maxRecDepth 100000 in
theorem sec_10 {B g go : Nat} {s : ByteArray} {W : World} {m : Mod} (hB : B ≤ W.heap.size) (hne : g ≠ go) (h2 : 2 ≤ go) (h : RdD g s 0 W) (hm : ModAt B go W m) : Calls Tryd.prog 26 #[.pointer (some ⟨g, 0, none⟩), .int .i64 10, .pointer (some ⟨go, 0, none⟩)] W (SecPost B g go W (dSec s 10 m)) := by
 have R0 := am h
 have HB := am hB
 have NE := am hne
 have H2 := am h2
 obtain ⟨v0, v1, v2, v3, v4, v5, v6, v8, v9, v10, hK, h0, h1, h2, h3, h4, h5, h6, h8, h9, h10⟩ := hm
 have K0 := am hK
 have L0 := am h0
 have L1 := am h1
 have L2 := am h2
 have L3 := am h3
 have L4 := am h4
 have L5 := am h5
 have L6 := am h6
 have L8 := am h8
 have L9 := am h9
 have L10 := am h10
 clear hK h0 h1 h2 h3 h4 h5 h6 h8 h9 h10
 clear h hB hne h2
 go_enter Tryd.func26, Tryd.ntmps26
 go_wp2_with (first
  | (go_at_call 51; (with_reducible refine (list_code_c 256 (by decide) (dCode s) (fun a W h => code_c h) R0.out).mono ?_); intro e w1 hh; rcases ret_cases hh with ⟨c, hc, rfl, hf⟩ | ⟨xs, a1, v, hx, rfl, hv, hr, hf⟩; (exact ⟨rfl, sec_er (by rw [dSec_10, secA_er hc]) rfl (hf.mono (fun _ hk => .inl hk))⟩); obtain ⟨A, c, rfl⟩ := Kd.R_slice hv; have LN := am (Kd.R_mono hv (fun k hk => Nat.le_trans HB.out hk)); have R1 := am hr; have F1 : Aside0 (Fr W w1 (fun k => k = g ∨ k = go)) := ⟨hf.mono (fun _ hk => .inl hk)⟩; have X1 := am hx; have K1 := am (hf.block K0.out (fun h => NE.out h.symm)); have M0 := am (Kd.R_mono (Kd.R_step (Kd.R_types L0.out R0.out.blk (by decide)) (fun k hk hlt => hf.k.2 k hlt hk.2)) (fun _ hk => hk.1)); have M1 := am (Kd.R_mono (Kd.R_step (Kd.R_types L1.out R0.out.blk (by decide)) (fun k hk hlt => hf.k.2 k hlt hk.2)) (fun _ hk => hk.1)); have M2 := am (Kd.R_mono (Kd.R_step (Kd.R_types L2.out R0.out.blk (by decide)) (fun k hk hlt => hf.k.2 k hlt hk.2)) (fun _ hk => hk.1)); have M3 := am (Kd.R_mono (Kd.R_step (Kd.R_types L3.out R0.out.blk (by decide)) (fun k hk hlt => hf.k.2 k hlt hk.2)) (fun _ hk => hk.1)); have M4 := am (Kd.R_mono (Kd.R_step (Kd.R_types L4.out R0.out.blk (by decide)) (fun k hk hlt => hf.k.2 k hlt hk.2)) (fun _ hk => hk.1)); have M5 := am (Kd.R_mono (Kd.R_step (Kd.R_types L5.out R0.out.blk (by decide)) (fun k hk hlt => hf.k.2 k hlt hk.2)) (fun _ hk => hk.1)); have M6 := am (Kd.R_mono (Kd.R_step (Kd.R_types L6.out R0.out.blk (by decide)) (fun k hk hlt => hf.k.2 k hlt hk.2)) (fun _ hk => hk.1)); have M8 := am (Kd.R_mono (Kd.R_step (Kd.R_types L8.out R0.out.blk (by decide)) (fun k hk hlt => hf.k.2 k hlt hk.2)) (fun _ hk => hk.1)); have M9 := am (Kd.R_mono (Kd.R_step (Kd.R_types L9.out R0.out.blk (by decide)) (fun k hk hlt => hf.k.2 k hlt hk.2)) (fun _ hk => hk.1)); have M10 := am (Kd.R_mono (Kd.R_step (Kd.R_types L10.out R0.out.blk (by decide)) (fun k hk hlt => hf.k.2 k hlt hk.2)) (fun _ hk => hk.1)); clear hh hr hf hx hv K0 R0 L0 L1 L2 L3 L4 L5 L6 L8 L9 L10)
  | ((with_reducible refine gate_store (p := 106) rfl ?_); refine storeCell_event (g := go) (j := 9) (x := .slice A xs.length c) rfl rfl rfl rfl rfl K1.out (by simp) (by kernel_rfl) rfl ?_; intro w2 hA hb ho hs; have R2 := am (rd_ne R1.out (Fr.stored (S := fun k => k = go) hb ho hs rfl) NE.out H2.out); have F2 := am (F1.out.then_ (Fr.stored (S := fun k => k = go) hb ho hs rfl) (fun k hk => .inl (.inr hk))); have N0 := am (Kd.R_mono (Kd.R_step (Kd.R_types M0.out K1.out (by decide)) (fun k hk _ => ho k hk.2)) (fun _ hk => hk.1)); have N1 := am (Kd.R_mono (Kd.R_step (Kd.R_types M1.out K1.out (by decide)) (fun k hk _ => ho k hk.2)) (fun _ hk => hk.1)); have N2 := am (Kd.R_mono (Kd.R_step (Kd.R_types M2.out K1.out (by decide)) (fun k hk _ => ho k hk.2)) (fun _ hk => hk.1)); have N3 := am (Kd.R_mono (Kd.R_step (Kd.R_types M3.out K1.out (by decide)) (fun k hk _ => ho k hk.2)) (fun _ hk => hk.1)); have N4 := am (Kd.R_mono (Kd.R_step (Kd.R_types M4.out K1.out (by decide)) (fun k hk _ => ho k hk.2)) (fun _ hk => hk.1)); have N5 := am (Kd.R_mono (Kd.R_step (Kd.R_types M5.out K1.out (by decide)) (fun k hk _ => ho k hk.2)) (fun _ hk => hk.1)); have N6 := am (Kd.R_mono (Kd.R_step (Kd.R_types M6.out K1.out (by decide)) (fun k hk _ => ho k hk.2)) (fun _ hk => hk.1)); have N8 := am (Kd.R_mono (Kd.R_step (Kd.R_types M8.out K1.out (by decide)) (fun k hk _ => ho k hk.2)) (fun _ hk => hk.1)); have N9 := am (Kd.R_mono (Kd.R_step (Kd.R_types M9.out K1.out (by decide)) (fun k hk _ => ho k hk.2)) (fun _ hk => hk.1)); have N10 := am (Kd.R_mono (Kd.R_step (Kd.R_types M10.out K1.out (by decide)) (fun k hk _ => ho k hk.2)) (fun _ hk => hk.1)); have LN2 := am (Kd.R_mono (Kd.R_step (Kd.R_types LN.out K1.out (by decide)) (fun k hk _ => ho k hk.2)) (fun _ hk => hk.1)); have MO2 : Aside0 (ModAt B go w2 { m with codes := xs }) := ⟨v0, v1, v2, v3, v4, v5, v6, v8, _, v10, hA, N0.out, N1.out, N2.out, N3.out, N4.out, N5.out, N6.out, N8.out, LN2.out, N10.out⟩; have c0 : w2.cell? ⟨g, 0, none⟩ = some (.string s) := blk_cell R2.out.blk 0; have c1 : w2.cell? ⟨g, 1, none⟩ = some (.int .i64 a1) := blk_cell R2.out.blk 1; clear hA hb ho hs K1 R1 F1 LN LN2 M0 N0 M1 N1 M2 N2 M3 N3 M4 N4 M5 N5 M6 N6 M8 N8 M9 N9 M10 N10))
 refine start_ (n := 11) (S := fun w' => RdD g s (a1) w' ∧ Fr W w' (fun k => k = g ∨ k = go) ∧ ModAt B go w' { m with codes := xs } ∧ w'.cell? ⟨g, 0, none⟩ = some (.string s) ∧ w'.cell? ⟨g, 1, none⟩ = some (.int .i64 (a1))) (ds := []) #[false, false, false, false, false, false, false, false, false, false, false] (by kernel_rfl) rfl rfl ⟨rd_drew R2.out, F2.out.drew, mod_below MO2.out (below_drew (Below.refl _ _)), c0, c1⟩ (fun hHeld => ?_)
 refine pu (i := 0) (N := some 116) (v := ?_) (a' := ?_) rfl rfl (by kernel_rfl) (fun _ _ _ h => h) (.inl ⟨by rfl, ?_⟩) ?_ ?_; rotate_left
 ·intro w'; go_simp; with_reducible rfl
 rotate_left; · simp only [Act.put, List.setIfInBounds_toArray, List.set_cons_zero, List.set_cons_succ, i64_w, i32_w]; rfl
 refine pu (i := 1) (N := some 117) (v := ?_) (a' := ?_) rfl rfl (by kernel_rfl) (fun _ _ _ h => h) (.inl ⟨by rfl, ?_⟩) ?_ ?_; rotate_left
 ·intro w'; go_simp; with_reducible rfl
 rotate_left; · simp only [Act.put, List.setIfInBounds_toArray, List.set_cons_zero, List.set_cons_succ, i64_w, i32_w]; rfl
 refine pu (i := 2) (N := some 118) (v := ?_) (a' := ?_) rfl rfl (by kernel_rfl) (fun _ _ _ h => h) (.inl ⟨by rfl, ?_⟩) ?_ ?_; rotate_left
 ·intro w'; go_simp; with_reducible rfl
 rotate_left; · simp only [Act.put, List.setIfInBounds_toArray, List.set_cons_zero, List.set_cons_succ, i64_w, i32_w]; rfl
 refine pu (i := 4) (N := some 120) (v := ?_) (a' := ?_) rfl rfl (by kernel_rfl) (fun _ _ _ h => h) (.inl ⟨by rfl, ?_⟩) ?_ ?_; rotate_left
 ·intro w'; go_simp; with_reducible rfl
 rotate_left; · simp only [Act.put, List.setIfInBounds_toArray, List.set_cons_zero, List.set_cons_succ, i64_w, i32_w]; rfl
 refine pu (i := 5) (N := some 121) (v := ?_) (a' := ?_) rfl rfl (by kernel_rfl) (fun _ _ _ h => h) (.inl ⟨by rfl, ?_⟩) ?_ ?_; rotate_left
 ·intro w'; go_simp; with_reducible rfl
 rotate_left; · simp only [Act.put, List.setIfInBounds_toArray, List.set_cons_zero, List.set_cons_succ, i64_w, i32_w]; rfl
 refine pu (i := 6) (N := some 122) (v := ?_) (a' := ?_) rfl rfl (by kernel_rfl) (fun _ _ _ h => h) (.inl ⟨by rfl, ?_⟩) ?_ ?_; rotate_left
 ·intro w'; go_simp; with_reducible rfl
 rotate_left; · simp only [Act.put, List.setIfInBounds_toArray, List.set_cons_zero, List.set_cons_succ, i64_w, i32_w]; rfl
 refine tu (i := 3) (N := some 119) (v := ?_) (a' := ?_) rfl rfl (by kernel_rfl) (fun _ _ _ h => h) (.inl ⟨by rfl, ?_⟩) hHeld ?_ ?_; rotate_left
 ·rintro w' ⟨s0, s1, s2, s3, s4⟩; go_simp; with_reducible rfl
 rotate_left; · simp only [Act.put, List.setIfInBounds_toArray, List.set_cons_zero, List.set_cons_succ, i64_w, i32_w]; rfl
 refine tu (i := 7) (N := some 123) (v := ?_) (a' := ?_) rfl rfl (by kernel_rfl) (fun _ _ _ h => h) (.inl ⟨by rfl, ?_⟩) hHeld ?_ ?_; rotate_left
 ·rintro w' ⟨s0, s1, s2, s3, s4⟩; go_simp; with_reducible rfl
 rotate_left; · simp only [Act.put, List.setIfInBounds_toArray, List.set_cons_zero, List.set_cons_succ, i64_w, i32_w]; rfl
 refine pu (i := 8) (N := some 124) (v := ?_) (a' := ?_) rfl rfl (by kernel_rfl) (fun _ _ _ h => h) (.inl ⟨by rfl, ?_⟩) ?_ ?_; rotate_left
 ·intro w'; go_simp; with_reducible rfl
 rotate_left; · simp only [Act.put, List.setIfInBounds_toArray, List.set_cons_zero, List.set_cons_succ, i64_w, i32_w]; rfl
 refine pu (i := 9) (N := some 125) (v := ?_) (a' := ?_) rfl rfl (by kernel_rfl) (fun _ _ _ h => h) (.inl ⟨by rfl, ?_⟩) ?_ ?_; rotate_left
 ·intro w'; go_simp; with_reducible rfl
 rotate_left; · simp only [Act.put, List.setIfInBounds_toArray, List.set_cons_zero, List.set_cons_succ, i64_w, i32_w]; rfl
 refine one_ (i := 10) (N := some 126) #[true, true, true, true, true, true, true, true, true, true, true] rfl rfl (by kernel_rfl) (by decide) (fun K hK => ?_)
 obtain ⟨r0, r1, r2, c0, c1⟩ := hHeld
 refine goesP_ Tryd.func23 (by kernel_rfl) rfl #[.bool ((a1) == (s.size : Int)), .int .i64 1504] (by rfl) rfl rfl (by simp only [List.map_toArray, List.map_cons, List.map_nil]; rfl) ?_
 with_reducible refine (need_c _ _ _).mono ?_
 rintro e w3 ⟨rfl, (⟨hb, rfl⟩ | ⟨hb, rfl⟩)⟩
 ·exact .inl ⟨_, rfl, rfl, sec_er (by rw [dSec_10, secA_ok X1.out, if_neg (ne_of_beq_false hb)]) rfl r1⟩
 refine .inr ⟨_, rfl, ?_⟩
 have Q0 := am r0
 have Q1 := am r1
 have Q2 := am r2
 have Q3 := am (eq_of_beq hb)
 clear r0 r1 r2
 refine hK.out _ _ ⟨Q0.out, Q1.out, Q2.out, c0, c1⟩ (fun hHeld => ?_)
 clear hK K
 refine norm_ (a' := ?_) ?_ ?_
 rotate_left
 ·show Act.put _ (some 126) _ = _
  simp only [Act.put, List.setIfInBounds_toArray, List.set_cons_zero, List.set_cons_succ, i64_w, i32_w]
  rfl
 refine done_ (by kernel_rfl) ?_
 go_wp2
 go_end0
 exact sec_ok (by rw [dSec_10, secA_ok X1.out, if_pos Q3.out]) rfl Q2.out Q1.out
theorem dSec_11 (s : ByteArray) (m : Mod) : dSec s 11 m = secA s (dList s 1024 (dData s) 0) fun x => { m with datas := x } := by simp [dSec]
set_option maxHeartbeats 4000000 in
set_option maxRecDepth 100000 in
theorem sec_11 {B g go : Nat} {s : ByteArray} {W : World} {m : Mod} (hB : B ≤ W.heap.size) (hne : g ≠ go) (h2 : 2 ≤ go) (h : RdD g s 0 W) (hm : ModAt B go W m) : Calls Tryd.prog 26 #[.pointer (some ⟨g, 0, none⟩), .int .i64 11, .pointer (some ⟨go, 0, none⟩)] W (SecPost B g go W (dSec s 11 m)) := by
 have R0 := am h
 have HB := am hB
 have NE := am hne
 have H2 := am h2
 obtain ⟨v0, v1, v2, v3, v4, v5, v6, v8, v9, v10, hK, h0, h1, h2, h3, h4, h5, h6, h8, h9, h10⟩ := hm
 have K0 := am hK
 have L0 := am h0
 have L1 := am h1
 have L2 := am h2
 have L3 := am h3
 have L4 := am h4
 have L5 := am h5
 have L6 := am h6
 have L8 := am h8
 have L9 := am h9
 have L10 := am h10
 clear hK h0 h1 h2 h3 h4 h5 h6 h8 h9 h10
 clear h hB hne h2
 go_enter Tryd.func26, Tryd.ntmps26
 go_wp2_with (first
  | (go_at_call 53; (with_reducible refine (list_data_c 1024 (by decide) (dData s) (fun a W h => data_c h) R0.out).mono ?_); intro e w1 hh; rcases ret_cases hh with ⟨c, hc, rfl, hf⟩ | ⟨xs, a1, v, hx, rfl, hv, hr, hf⟩; (exact ⟨rfl, sec_er (by rw [dSec_11, secA_er hc]) rfl (hf.mono (fun _ hk => .inl hk))⟩); obtain ⟨A, c, rfl⟩ := Kd.R_slice hv; have LN := am (Kd.R_mono hv (fun k hk => Nat.le_trans HB.out hk)); have R1 := am hr; have F1 : Aside0 (Fr W w1 (fun k => k = g ∨ k = go)) := ⟨hf.mono (fun _ hk => .inl hk)⟩; have X1 := am hx; have K1 := am (hf.block K0.out (fun h => NE.out h.symm)); have M0 := am (Kd.R_mono (Kd.R_step (Kd.R_types L0.out R0.out.blk (by decide)) (fun k hk hlt => hf.k.2 k hlt hk.2)) (fun _ hk => hk.1)); have M1 := am (Kd.R_mono (Kd.R_step (Kd.R_types L1.out R0.out.blk (by decide)) (fun k hk hlt => hf.k.2 k hlt hk.2)) (fun _ hk => hk.1)); have M2 := am (Kd.R_mono (Kd.R_step (Kd.R_types L2.out R0.out.blk (by decide)) (fun k hk hlt => hf.k.2 k hlt hk.2)) (fun _ hk => hk.1)); have M3 := am (Kd.R_mono (Kd.R_step (Kd.R_types L3.out R0.out.blk (by decide)) (fun k hk hlt => hf.k.2 k hlt hk.2)) (fun _ hk => hk.1)); have M4 := am (Kd.R_mono (Kd.R_step (Kd.R_types L4.out R0.out.blk (by decide)) (fun k hk hlt => hf.k.2 k hlt hk.2)) (fun _ hk => hk.1)); have M5 := am (Kd.R_mono (Kd.R_step (Kd.R_types L5.out R0.out.blk (by decide)) (fun k hk hlt => hf.k.2 k hlt hk.2)) (fun _ hk => hk.1)); have M6 := am (Kd.R_mono (Kd.R_step (Kd.R_types L6.out R0.out.blk (by decide)) (fun k hk hlt => hf.k.2 k hlt hk.2)) (fun _ hk => hk.1)); have M8 := am (Kd.R_mono (Kd.R_step (Kd.R_types L8.out R0.out.blk (by decide)) (fun k hk hlt => hf.k.2 k hlt hk.2)) (fun _ hk => hk.1)); have M9 := am (Kd.R_mono (Kd.R_step (Kd.R_types L9.out R0.out.blk (by decide)) (fun k hk hlt => hf.k.2 k hlt hk.2)) (fun _ hk => hk.1)); have M10 := am (Kd.R_mono (Kd.R_step (Kd.R_types L10.out R0.out.blk (by decide)) (fun k hk hlt => hf.k.2 k hlt hk.2)) (fun _ hk => hk.1)); clear hh hr hf hx hv K0 R0 L0 L1 L2 L3 L4 L5 L6 L8 L9 L10)
  | ((with_reducible refine gate_store (p := 115) rfl ?_); refine storeCell_event (g := go) (j := 10) (x := .slice A xs.length c) rfl rfl rfl rfl rfl K1.out (by simp) (by kernel_rfl) rfl ?_; intro w2 hA hb ho hs; have R2 := am (rd_ne R1.out (Fr.stored (S := fun k => k = go) hb ho hs rfl) NE.out H2.out); have F2 := am (F1.out.then_ (Fr.stored (S := fun k => k = go) hb ho hs rfl) (fun k hk => .inl (.inr hk))); have N0 := am (Kd.R_mono (Kd.R_step (Kd.R_types M0.out K1.out (by decide)) (fun k hk _ => ho k hk.2)) (fun _ hk => hk.1)); have N1 := am (Kd.R_mono (Kd.R_step (Kd.R_types M1.out K1.out (by decide)) (fun k hk _ => ho k hk.2)) (fun _ hk => hk.1)); have N2 := am (Kd.R_mono (Kd.R_step (Kd.R_types M2.out K1.out (by decide)) (fun k hk _ => ho k hk.2)) (fun _ hk => hk.1)); have N3 := am (Kd.R_mono (Kd.R_step (Kd.R_types M3.out K1.out (by decide)) (fun k hk _ => ho k hk.2)) (fun _ hk => hk.1)); have N4 := am (Kd.R_mono (Kd.R_step (Kd.R_types M4.out K1.out (by decide)) (fun k hk _ => ho k hk.2)) (fun _ hk => hk.1)); have N5 := am (Kd.R_mono (Kd.R_step (Kd.R_types M5.out K1.out (by decide)) (fun k hk _ => ho k hk.2)) (fun _ hk => hk.1)); have N6 := am (Kd.R_mono (Kd.R_step (Kd.R_types M6.out K1.out (by decide)) (fun k hk _ => ho k hk.2)) (fun _ hk => hk.1)); have N8 := am (Kd.R_mono (Kd.R_step (Kd.R_types M8.out K1.out (by decide)) (fun k hk _ => ho k hk.2)) (fun _ hk => hk.1)); have N9 := am (Kd.R_mono (Kd.R_step (Kd.R_types M9.out K1.out (by decide)) (fun k hk _ => ho k hk.2)) (fun _ hk => hk.1)); have N10 := am (Kd.R_mono (Kd.R_step (Kd.R_types M10.out K1.out (by decide)) (fun k hk _ => ho k hk.2)) (fun _ hk => hk.1)); have LN2 := am (Kd.R_mono (Kd.R_step (Kd.R_types LN.out K1.out (by decide)) (fun k hk _ => ho k hk.2)) (fun _ hk => hk.1)); have MO2 : Aside0 (ModAt B go w2 { m with datas := xs }) := ⟨v0, v1, v2, v3, v4, v5, v6, v8, v9, _, hA, N0.out, N1.out, N2.out, N3.out, N4.out, N5.out, N6.out, N8.out, N9.out, LN2.out⟩; have c0 : w2.cell? ⟨g, 0, none⟩ = some (.string s) := blk_cell R2.out.blk 0; have c1 : w2.cell? ⟨g, 1, none⟩ = some (.int .i64 a1) := blk_cell R2.out.blk 1; clear hA hb ho hs K1 R1 F1 LN LN2 M0 N0 M1 N1 M2 N2 M3 N3 M4 N4 M5 N5 M6 N6 M8 N8 M9 N9 M10 N10))
 refine start_ (n := 11) (S := fun w' => RdD g s (a1) w' ∧ Fr W w' (fun k => k = g ∨ k = go) ∧ ModAt B go w' { m with datas := xs } ∧ w'.cell? ⟨g, 0, none⟩ = some (.string s) ∧ w'.cell? ⟨g, 1, none⟩ = some (.int .i64 (a1))) (ds := []) #[false, false, false, false, false, false, false, false, false, false, false] (by kernel_rfl) rfl rfl ⟨rd_drew R2.out, F2.out.drew, mod_below MO2.out (below_drew (Below.refl _ _)), c0, c1⟩ (fun hHeld => ?_)
 refine pu (i := 0) (N := some 116) (v := ?_) (a' := ?_) rfl rfl (by kernel_rfl) (fun _ _ _ h => h) (.inl ⟨by rfl, ?_⟩) ?_ ?_; rotate_left
 ·intro w'; go_simp; with_reducible rfl
 rotate_left; · simp only [Act.put, List.setIfInBounds_toArray, List.set_cons_zero, List.set_cons_succ, i64_w, i32_w]; rfl
 refine pu (i := 1) (N := some 117) (v := ?_) (a' := ?_) rfl rfl (by kernel_rfl) (fun _ _ _ h => h) (.inl ⟨by rfl, ?_⟩) ?_ ?_; rotate_left
 ·intro w'; go_simp; with_reducible rfl
 rotate_left; · simp only [Act.put, List.setIfInBounds_toArray, List.set_cons_zero, List.set_cons_succ, i64_w, i32_w]; rfl
 refine pu (i := 2) (N := some 118) (v := ?_) (a' := ?_) rfl rfl (by kernel_rfl) (fun _ _ _ h => h) (.inl ⟨by rfl, ?_⟩) ?_ ?_; rotate_left
 ·intro w'; go_simp; with_reducible rfl
 rotate_left; · simp only [Act.put, List.setIfInBounds_toArray, List.set_cons_zero, List.set_cons_succ, i64_w, i32_w]; rfl
 refine pu (i := 4) (N := some 120) (v := ?_) (a' := ?_) rfl rfl (by kernel_rfl) (fun _ _ _ h => h) (.inl ⟨by rfl, ?_⟩) ?_ ?_; rotate_left
 ·intro w'; go_simp; with_reducible rfl
 rotate_left; · simp only [Act.put, List.setIfInBounds_toArray, List.set_cons_zero, List.set_cons_succ, i64_w, i32_w]; rfl
 refine pu (i := 5) (N := some 121) (v := ?_) (a' := ?_) rfl rfl (by kernel_rfl) (fun _ _ _ h => h) (.inl ⟨by rfl, ?_⟩) ?_ ?_; rotate_left
 ·intro w'; go_simp; with_reducible rfl
 rotate_left; · simp only [Act.put, List.setIfInBounds_toArray, List.set_cons_zero, List.set_cons_succ, i64_w, i32_w]; rfl
 refine pu (i := 6) (N := some 122) (v := ?_) (a' := ?_) rfl rfl (by kernel_rfl) (fun _ _ _ h => h) (.inl ⟨by rfl, ?_⟩) ?_ ?_; rotate_left
 ·intro w'; go_simp; with_reducible rfl
 rotate_left; · simp only [Act.put, List.setIfInBounds_toArray, List.set_cons_zero, List.set_cons_succ, i64_w, i32_w]; rfl
 refine tu (i := 3) (N := some 119) (v := ?_) (a' := ?_) rfl rfl (by kernel_rfl) (fun _ _ _ h => h) (.inl ⟨by rfl, ?_⟩) hHeld ?_ ?_; rotate_left
 ·rintro w' ⟨s0, s1, s2, s3, s4⟩; go_simp; with_reducible rfl
 rotate_left; · simp only [Act.put, List.setIfInBounds_toArray, List.set_cons_zero, List.set_cons_succ, i64_w, i32_w]; rfl
 refine tu (i := 7) (N := some 123) (v := ?_) (a' := ?_) rfl rfl (by kernel_rfl) (fun _ _ _ h => h) (.inl ⟨by rfl, ?_⟩) hHeld ?_ ?_; rotate_left
 ·rintro w' ⟨s0, s1, s2, s3, s4⟩; go_simp; with_reducible rfl
 rotate_left; · simp only [Act.put, List.setIfInBounds_toArray, List.set_cons_zero, List.set_cons_succ, i64_w, i32_w]; rfl
 refine pu (i := 8) (N := some 124) (v := ?_) (a' := ?_) rfl rfl (by kernel_rfl) (fun _ _ _ h => h) (.inl ⟨by rfl, ?_⟩) ?_ ?_; rotate_left
 ·intro w'; go_simp; with_reducible rfl
 rotate_left; · simp only [Act.put, List.setIfInBounds_toArray, List.set_cons_zero, List.set_cons_succ, i64_w, i32_w]; rfl
 refine pu (i := 9) (N := some 125) (v := ?_) (a' := ?_) rfl rfl (by kernel_rfl) (fun _ _ _ h => h) (.inl ⟨by rfl, ?_⟩) ?_ ?_; rotate_left
 ·intro w'; go_simp; with_reducible rfl
 rotate_left; · simp only [Act.put, List.setIfInBounds_toArray, List.set_cons_zero, List.set_cons_succ, i64_w, i32_w]; rfl
 refine one_ (i := 10) (N := some 126) #[true, true, true, true, true, true, true, true, true, true, true] rfl rfl (by kernel_rfl) (by decide) (fun K hK => ?_)
 obtain ⟨r0, r1, r2, c0, c1⟩ := hHeld
 refine goesP_ Tryd.func23 (by kernel_rfl) rfl #[.bool ((a1) == (s.size : Int)), .int .i64 1504] (by rfl) rfl rfl (by simp only [List.map_toArray, List.map_cons, List.map_nil]; rfl) ?_
 with_reducible refine (need_c _ _ _).mono ?_
 rintro e w3 ⟨rfl, (⟨hb, rfl⟩ | ⟨hb, rfl⟩)⟩
 ·exact .inl ⟨_, rfl, rfl, sec_er (by rw [dSec_11, secA_ok X1.out, if_neg (ne_of_beq_false hb)]) rfl r1⟩
 refine .inr ⟨_, rfl, ?_⟩
 have Q0 := am r0
 have Q1 := am r1
 have Q2 := am r2
 have Q3 := am (eq_of_beq hb)
 clear r0 r1 r2
 refine hK.out _ _ ⟨Q0.out, Q1.out, Q2.out, c0, c1⟩ (fun hHeld => ?_)
 clear hK K
 refine norm_ (a' := ?_) ?_ ?_
 rotate_left
 ·show Act.put _ (some 126) _ = _
  simp only [Act.put, List.setIfInBounds_toArray, List.set_cons_zero, List.set_cons_succ, i64_w, i32_w]
  rfl
 refine done_ (by kernel_rfl) ?_
 go_wp2
 go_end0
 exact sec_ok (by rw [dSec_11, secA_ok X1.out, if_pos Q3.out]) rfl Q2.out Q1.out
theorem dSec_0 (s : ByteArray) (m : Mod) : dSec s 0 m = (match dName s 0 with
 | .ok _ => .ok m
 | .error c => .error c) := by simp [dSec]
set_option maxHeartbeats 4000000 in
set_option maxRecDepth 100000 in
theorem sec_0 {B g go : Nat} {s : ByteArray} {W : World} {m : Mod} (hB : B ≤ W.heap.size) (hne : g ≠ go) (h2 : 2 ≤ go) (h : RdD g s 0 W) (hm : ModAt B go W m) : Calls Tryd.prog 26 #[.pointer (some ⟨g, 0, none⟩), .int .i64 0, .pointer (some ⟨go, 0, none⟩)] W (SecPost B g go W (dSec s 0 m)) := by
 have R0 := am h
 have HB := am hB
 have NE := am hne
 have H2 := am h2
 obtain ⟨v0, v1, v2, v3, v4, v5, v6, v8, v9, v10, hK, h0, h1, h2, h3, h4, h5, h6, h8, h9, h10⟩ := hm
 have K0 := am hK
 have L0 := am h0
 have L1 := am h1
 have L2 := am h2
 have L3 := am h3
 have L4 := am h4
 have L5 := am h5
 have L6 := am h6
 have L8 := am h8
 have L9 := am h9
 have L10 := am h10
 clear hK h0 h1 h2 h3 h4 h5 h6 h8 h9 h10
 clear h hB hne h2
 go_enter Tryd.func26, Tryd.ntmps26
 go_wp2_with (first
  | (go_at_call 35; (with_reducible refine (name_c R0.out).mono ?_); intro e w1 hh; rcases ret_cases hh with ⟨c, hc, rfl, hf⟩ | ⟨xs, a1, v, hx, rfl, hv, hr, hf⟩; (exact ⟨rfl, sec_er (by rw [dSec_0, hc]) rfl (hf.mono (fun _ hk => .inl hk))⟩); (have hv : v = .string xs := hv); subst hv; have R1 := am hr; have F1 : Aside0 (Fr W w1 (fun k => k = g ∨ k = go)) := ⟨hf.mono (fun _ hk => .inl hk)⟩; have X1 := am hx; have K1 := am (hf.block K0.out (fun h => NE.out h.symm)); have M0 := am (Kd.R_mono (Kd.R_step (Kd.R_types L0.out R0.out.blk (by decide)) (fun k hk hlt => hf.k.2 k hlt hk.2)) (fun _ hk => hk.1)); have M1 := am (Kd.R_mono (Kd.R_step (Kd.R_types L1.out R0.out.blk (by decide)) (fun k hk hlt => hf.k.2 k hlt hk.2)) (fun _ hk => hk.1)); have M2 := am (Kd.R_mono (Kd.R_step (Kd.R_types L2.out R0.out.blk (by decide)) (fun k hk hlt => hf.k.2 k hlt hk.2)) (fun _ hk => hk.1)); have M3 := am (Kd.R_mono (Kd.R_step (Kd.R_types L3.out R0.out.blk (by decide)) (fun k hk hlt => hf.k.2 k hlt hk.2)) (fun _ hk => hk.1)); have M4 := am (Kd.R_mono (Kd.R_step (Kd.R_types L4.out R0.out.blk (by decide)) (fun k hk hlt => hf.k.2 k hlt hk.2)) (fun _ hk => hk.1)); have M5 := am (Kd.R_mono (Kd.R_step (Kd.R_types L5.out R0.out.blk (by decide)) (fun k hk hlt => hf.k.2 k hlt hk.2)) (fun _ hk => hk.1)); have M6 := am (Kd.R_mono (Kd.R_step (Kd.R_types L6.out R0.out.blk (by decide)) (fun k hk hlt => hf.k.2 k hlt hk.2)) (fun _ hk => hk.1)); have M8 := am (Kd.R_mono (Kd.R_step (Kd.R_types L8.out R0.out.blk (by decide)) (fun k hk hlt => hf.k.2 k hlt hk.2)) (fun _ hk => hk.1)); have M9 := am (Kd.R_mono (Kd.R_step (Kd.R_types L9.out R0.out.blk (by decide)) (fun k hk hlt => hf.k.2 k hlt hk.2)) (fun _ hk => hk.1)); have M10 := am (Kd.R_mono (Kd.R_step (Kd.R_types L10.out R0.out.blk (by decide)) (fun k hk hlt => hf.k.2 k hlt hk.2)) (fun _ hk => hk.1)); have c0 : w1.cell? ⟨g, 0, none⟩ = some (.string s) := blk_cell R1.out.blk 0; clear hh hr hf hx K0 R0 L0 L1 L2 L3 L4 L5 L6 L8 L9 L10)
  | ((with_reducible refine gate_store (p := 18) rfl ?_); refine storeCell_event (g := g) (j := 1) (x := .int .i64 (s.size : Int)) rfl rfl rfl rfl rfl R1.out.blk (by simp) (by kernel_rfl) rfl ?_; intro w2 hA hb ho hs; have R2 := am (rd_put R1.out (show 0 ≤ (s.size : Int) from Int.natCast_nonneg _) (Int.le_refl _) hA (Fr.stored (S := fun k => k = g) hb ho hs rfl)); have F2 := am (F1.out.then_ (Fr.stored (S := fun k => k = g) hb ho hs rfl) (fun k hk => .inl (.inl hk))); have N0 := am (Kd.R_mono (Kd.R_step (Kd.R_types M0.out R1.out.blk (by decide)) (fun k hk _ => ho k hk.2)) (fun _ hk => hk.1)); have N1 := am (Kd.R_mono (Kd.R_step (Kd.R_types M1.out R1.out.blk (by decide)) (fun k hk _ => ho k hk.2)) (fun _ hk => hk.1)); have N2 := am (Kd.R_mono (Kd.R_step (Kd.R_types M2.out R1.out.blk (by decide)) (fun k hk _ => ho k hk.2)) (fun _ hk => hk.1)); have N3 := am (Kd.R_mono (Kd.R_step (Kd.R_types M3.out R1.out.blk (by decide)) (fun k hk _ => ho k hk.2)) (fun _ hk => hk.1)); have N4 := am (Kd.R_mono (Kd.R_step (Kd.R_types M4.out R1.out.blk (by decide)) (fun k hk _ => ho k hk.2)) (fun _ hk => hk.1)); have N5 := am (Kd.R_mono (Kd.R_step (Kd.R_types M5.out R1.out.blk (by decide)) (fun k hk _ => ho k hk.2)) (fun _ hk => hk.1)); have N6 := am (Kd.R_mono (Kd.R_step (Kd.R_types M6.out R1.out.blk (by decide)) (fun k hk _ => ho k hk.2)) (fun _ hk => hk.1)); have N8 := am (Kd.R_mono (Kd.R_step (Kd.R_types M8.out R1.out.blk (by decide)) (fun k hk _ => ho k hk.2)) (fun _ hk => hk.1)); have N9 := am (Kd.R_mono (Kd.R_step (Kd.R_types M9.out R1.out.blk (by decide)) (fun k hk _ => ho k hk.2)) (fun _ hk => hk.1)); have N10 := am (Kd.R_mono (Kd.R_step (Kd.R_types M10.out R1.out.blk (by decide)) (fun k hk _ => ho k hk.2)) (fun _ hk => hk.1)); have MO2 : Aside0 (ModAt B go w2 m) := ⟨v0, v1, v2, v3, v4, v5, v6, v8, v9, v10, (ho go (Ne.symm NE.out)).trans K1.out, N0.out, N1.out, N2.out, N3.out, N4.out, N5.out, N6.out, N8.out, N9.out, N10.out⟩; clear c0; have c0 : w2.cell? ⟨g, 0, none⟩ = some (.string s) := blk_cell R2.out.blk 0; have c1 : w2.cell? ⟨g, 1, none⟩ = some (.int .i64 (s.size : Int)) := blk_cell R2.out.blk 1; clear hA hb ho hs K1 R1 F1 M0 N0 M1 N1 M2 N2 M3 N3 M4 N4 M5 N5 M6 N6 M8 N8 M9 N9 M10 N10))
 refine start_ (n := 11) (S := fun w' => RdD g s ((s.size : Int)) w' ∧ Fr W w' (fun k => k = g ∨ k = go) ∧ ModAt B go w' m ∧ w'.cell? ⟨g, 0, none⟩ = some (.string s) ∧ w'.cell? ⟨g, 1, none⟩ = some (.int .i64 ((s.size : Int)))) (ds := []) #[false, false, false, false, false, false, false, false, false, false, false] (by kernel_rfl) rfl rfl ⟨rd_drew R2.out, F2.out.drew, mod_below MO2.out (below_drew (Below.refl _ _)), c0, c1⟩ (fun hHeld => ?_)
 refine pu (i := 0) (N := some 116) (v := ?_) (a' := ?_) rfl rfl (by kernel_rfl) (fun _ _ _ h => h) (.inl ⟨by rfl, ?_⟩) ?_ ?_; rotate_left
 ·intro w'; go_simp; with_reducible rfl
 rotate_left; · simp only [Act.put, List.setIfInBounds_toArray, List.set_cons_zero, List.set_cons_succ, i64_w, i32_w]; rfl
 refine pu (i := 1) (N := some 117) (v := ?_) (a' := ?_) rfl rfl (by kernel_rfl) (fun _ _ _ h => h) (.inl ⟨by rfl, ?_⟩) ?_ ?_; rotate_left
 ·intro w'; go_simp; with_reducible rfl
 rotate_left; · simp only [Act.put, List.setIfInBounds_toArray, List.set_cons_zero, List.set_cons_succ, i64_w, i32_w]; rfl
 refine pu (i := 2) (N := some 118) (v := ?_) (a' := ?_) rfl rfl (by kernel_rfl) (fun _ _ _ h => h) (.inl ⟨by rfl, ?_⟩) ?_ ?_; rotate_left
 ·intro w'; go_simp; with_reducible rfl
 rotate_left; · simp only [Act.put, List.setIfInBounds_toArray, List.set_cons_zero, List.set_cons_succ, i64_w, i32_w]; rfl
 refine pu (i := 4) (N := some 120) (v := ?_) (a' := ?_) rfl rfl (by kernel_rfl) (fun _ _ _ h => h) (.inl ⟨by rfl, ?_⟩) ?_ ?_; rotate_left
 ·intro w'; go_simp; with_reducible rfl
 rotate_left; · simp only [Act.put, List.setIfInBounds_toArray, List.set_cons_zero, List.set_cons_succ, i64_w, i32_w]; rfl
 refine pu (i := 5) (N := some 121) (v := ?_) (a' := ?_) rfl rfl (by kernel_rfl) (fun _ _ _ h => h) (.inl ⟨by rfl, ?_⟩) ?_ ?_; rotate_left
 ·intro w'; go_simp; with_reducible rfl
 rotate_left; · simp only [Act.put, List.setIfInBounds_toArray, List.set_cons_zero, List.set_cons_succ, i64_w, i32_w]; rfl
 refine pu (i := 6) (N := some 122) (v := ?_) (a' := ?_) rfl rfl (by kernel_rfl) (fun _ _ _ h => h) (.inl ⟨by rfl, ?_⟩) ?_ ?_; rotate_left
 ·intro w'; go_simp; with_reducible rfl
 rotate_left; · simp only [Act.put, List.setIfInBounds_toArray, List.set_cons_zero, List.set_cons_succ, i64_w, i32_w]; rfl
 refine tu (i := 3) (N := some 119) (v := ?_) (a' := ?_) rfl rfl (by kernel_rfl) (fun _ _ _ h => h) (.inl ⟨by rfl, ?_⟩) hHeld ?_ ?_; rotate_left
 ·rintro w' ⟨s0, s1, s2, s3, s4⟩; go_simp; with_reducible rfl
 rotate_left; · simp only [Act.put, List.setIfInBounds_toArray, List.set_cons_zero, List.set_cons_succ, i64_w, i32_w]; rfl
 refine tu (i := 7) (N := some 123) (v := ?_) (a' := ?_) rfl rfl (by kernel_rfl) (fun _ _ _ h => h) (.inl ⟨by rfl, ?_⟩) hHeld ?_ ?_; rotate_left
 ·rintro w' ⟨s0, s1, s2, s3, s4⟩; go_simp; with_reducible rfl
 rotate_left; · simp only [Act.put, List.setIfInBounds_toArray, List.set_cons_zero, List.set_cons_succ, i64_w, i32_w]; rfl
 refine pu (i := 8) (N := some 124) (v := ?_) (a' := ?_) rfl rfl (by kernel_rfl) (fun _ _ _ h => h) (.inl ⟨by rfl, ?_⟩) ?_ ?_; rotate_left
 ·intro w'; go_simp; with_reducible rfl
 rotate_left; · simp only [Act.put, List.setIfInBounds_toArray, List.set_cons_zero, List.set_cons_succ, i64_w, i32_w]; rfl
 refine pu (i := 9) (N := some 125) (v := ?_) (a' := ?_) rfl rfl (by kernel_rfl) (fun _ _ _ h => h) (.inl ⟨by rfl, ?_⟩) ?_ ?_; rotate_left
 ·intro w'; go_simp; with_reducible rfl
 rotate_left; · simp only [Act.put, List.setIfInBounds_toArray, List.set_cons_zero, List.set_cons_succ, i64_w, i32_w]; rfl
 refine one_ (i := 10) (N := some 126) #[true, true, true, true, true, true, true, true, true, true, true] rfl rfl (by kernel_rfl) (by decide) (fun K hK => ?_)
 obtain ⟨r0, r1, r2, c0, c1⟩ := hHeld
 refine goesP_ Tryd.func23 (by kernel_rfl) rfl #[.bool (true), .int .i64 1504] (by rfl) rfl rfl (by simp only [List.map_toArray, List.map_cons, List.map_nil]; rfl) ?_
 with_reducible refine (need_c _ _ _).mono ?_
 rintro e w3 ⟨rfl, (⟨hb, rfl⟩ | ⟨hb, rfl⟩)⟩
 ·exact .inl ⟨_, rfl, rfl, sec_er (c := 1504) (absurd hb (by simp)) rfl r1⟩
 refine .inr ⟨_, rfl, ?_⟩
 have Q0 := am r0
 have Q1 := am r1
 have Q2 := am r2
 have Q3 := am (hb)
 clear r0 r1 r2
 refine hK.out _ _ ⟨Q0.out, Q1.out, Q2.out, c0, c1⟩ (fun hHeld => ?_)
 clear hK K
 refine norm_ (a' := ?_) ?_ ?_
 rotate_left
 ·show Act.put _ (some 126) _ = _
  simp only [Act.put, List.setIfInBounds_toArray, List.set_cons_zero, List.set_cons_succ, i64_w, i32_w]
  rfl
 refine done_ (by kernel_rfl) ?_
 go_wp2
 go_end0
 exact sec_ok (by rw [dSec_0, X1.out]) rfl Q2.out Q1.out
theorem section_c {B g go : Nat} {s : ByteArray} {W : World} {m : Mod} (hB : B ≤ W.heap.size) (hne : g ≠ go) (h2 : 2 ≤ go) (h : RdD g s 0 W) (hm : ModAt B go W m) {id : Int} (h0 : 0 ≤ id) (h11 : id ≤ 11) : Calls Tryd.prog 26 #[.pointer (some ⟨g, 0, none⟩), .int .i64 id, .pointer (some ⟨go, 0, none⟩)] W (SecPost B g go W (dSec s id m)) := by
 rcases (show id = 0 ∨ id = 1 ∨ id = 2 ∨ id = 3 ∨ id = 4 ∨ id = 5 ∨ id = 6 ∨ id = 7 ∨ id = 8 ∨ id = 9 ∨ id = 10 ∨ id = 11 by omega) with rfl | rfl | rfl | rfl | rfl | rfl | rfl | rfl | rfl | rfl | rfl | rfl
 ·exact sec_0 hB hne h2 h hm
 ·exact sec_1 hB hne h2 h hm
 ·exact sec_2 hB hne h2 h hm
 ·exact sec_3 hB hne h2 h hm
 ·exact sec_4 hB hne h2 h hm
 ·exact sec_5 hB hne h2 h hm
 ·exact sec_6 hB hne h2 h hm
 ·exact sec_7 hB hne h2 h hm
 ·exact sec_8 hB hne h2 h hm
 ·exact sec_9 hB hne h2 h hm
 ·exact sec_10 hB hne h2 h hm
 ·exact sec_11 hB hne h2 h hm
end Go.Proofs.YtkdoijfjceeblaaDoor.EDec
