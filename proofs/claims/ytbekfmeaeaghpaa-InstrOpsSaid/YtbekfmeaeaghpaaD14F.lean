/-
  DERIVED: THE SHELF's CONTRACTS AT THIS DUMP, IN PLAIN WORDS (tools/lay-plain.mjs out of 'YtbekfmeaeaghpaaShelf.lean', which tools/lay-shelf.mjs wrote): THE SAME DECLARATIONS UNDER THE SAME NAMES: 'import', 'namespace', 'open', 'def', 'theorem' AND NOTHING ELSE: no command of the shelf's: FOR A HAND-IN. Each laying: the table of numbers ('.._ren') and one theorem, a field a fact of the dump's own or the kernel's comparison; each contract: ONE APPLICATION. strings.Builder as this translation has it: a byte written, a string written, the string. Instructions as bytes: plain; the builder's contracts in numbers. instr.low, instr.one: what they write. instr.put, instr.Put: what they write.
-/
import Derived.Test.YtbekfmeaeaghpaaFx0
import Derived.Test.YtbekfmeaeaghpaaFx2
import Derived.Test.YtbekfmeaeaghpaaFx3
import Derived.Shelf.Strings.Builder1
import Derived.Ground.Names2Prog
import Derived.Test.YtbekfmeaeaghpaaProg
import Derived.Test.YtbekfmeaeaghpaaD14A
import Derived.Test.YtbekfmeaeaghpaaD14B
import Derived.Lib.Builder
import Derived.Lib.AppendStr
import Derived.Laws.AppendOwn
import Derived.WalkLawsBesides
import Derived.Test.YtbekfmeaeaghpaaD14C
import Derived.Test.YtbekfmeaeaghpaaD14H
namespace Go.Proofs
open Go.Shelf
def Try.lays169_ren : Go.Shelf.Ren := ⟨fun | 169 => 30 | n => n, fun | 70 => 59 | 9 => 9 | 0 => 0 | 72 => 61 | 37 => 45 | 127 => 91 | 3 => 3 | 5 => 5 | n => n, fun | n => n⟩
theorem Try.lays169 : Go.Proofs.Lays.n169 Try.prog Try.lays169_ren := {
  mixed := by kernel_rfl
  f169 := Try.func30.trans (congrArg some (by kernel_rfl))
  t0 := Try.underlying0
  a0 := Try.isAgg0
  z0 := Try.sizeOf0
  v0 := Try.zeroValue0
  t3 := Try.underlying3
  a3 := Try.isAgg3
  z3 := Try.sizeOf3
  v3 := Try.zeroValue3
  t9 := Try.underlying9
  a9 := Try.isAgg9
  z9 := Try.sizeOf9
  v9 := Try.zeroValue9
  t37 := Try.underlying45
  a37 := Try.isAgg45
  z37 := Try.sizeOf45
  v37 := Try.zeroValue45
  t70 := Try.underlying59
  a70 := Try.isAgg59
  z70 := Try.sizeOf59
  v70 := Try.zeroValue59
  t72 := Try.underlying61
  a72 := Try.isAgg61
  z72 := Try.sizeOf61
  v72 := Try.zeroValue61
  t127 := Try.underlying91
  a127 := Try.isAgg91
  z127 := Try.sizeOf91
  v127 := Try.zeroValue91 }
theorem Try.Builder_Extra_169 : Builder.Extra Try.prog Try.lays169_ren := {
  sizeBuilder := by kernel_rfl
  liesBuilder := by kernel_rfl
  t5 := Try.underlying5
  a5 := Try.isAgg5
  z5 := Try.sizeOf5
  v5 := Try.zeroValue5
  infoByte := by kernel_rfl
  cellsByte := by kernel_rfl
  sizeByte := by kernel_rfl
  neB5 := by decide }
open Go.RowKit in
/-- (*strings.Builder).String: "String returns the accumulated string.": WHATEVER THE BUILDER HOLDS. (LAID: no walk: one application.) -/
theorem Try.Builder_String_any (B b : Nat) (l : List UInt8) (w : World) (h : Lib.IsBuilder 61 5 B b (Lib.byteCells l) w) (hBw : B ≤ w.heap.size) :
    Calls Try.prog 30 #[.pointer (some ⟨b, 0, none⟩)] w fun e w' => e = .returned (.string ⟨l.toArray⟩) ∧ Below B w w' := Any.Builder_String_any Try.lays169 Try.Builder_Extra_169 B b l w h hBw
end Go.Proofs
namespace Go.Proofs.Ytbekfmeaeaghpaa.EBuild
open Go Go.RowKit Go.Proofs.Ytbekfmeaeaghpaa.F Go.Proofs.YtbekfmeaeaghpaaW.Hand Go.Proofs.YtbekfmeaeaghpaaW.PrintWords Go.Proofs.YtbekfmeaeaghpaaW.PrintLast Go.Proofs.YtbekfmeaeaghpaaW.PrintMore
set_option linter.unusedVariables false
set_option linter.unusedSimpArgs false
theorem info5x : (Try.prog.info? 5).map (fun i => (i.zero, i.size, i.bytes)) = some (some (.int .u8 0), 1, 1) := by kernel_rfl
theorem info61x : (Try.prog.info? 61).map (·.size) = some 2 := by kernel_rfl
set_option maxHeartbeats 1000000 in
set_option maxRecDepth 100000 in
theorem check_c (B b : Nat) (bs : List Value) (w : World) (h : Lib.IsBuilder 61 5 B b bs w) :
    Calls Try.prog 43 #[.pointer (some ⟨b, 0, none⟩)] w fun e w' => e = .returned (.tuple #[]) ∧ Lib.BuilderAt 61 5 B b (.pointer (some ⟨b, 0, none⟩)) bs w' ∧ Below B w w' := by
  obtain ⟨j, hj, hjs⟩ := Option.map_eq_some_iff.1 info61x
  rcases h with h | h
  · have z0 := h.cell0
    have f0 := h.frozen0
    have hsh := h.shape
    have H := Aside0.mk h
    clear h
    go_enter Try.func43, Try.ntmps43
    go_wp2
    rw [Lib.run_to_unsafe w ⟨b, 0, none⟩ Try.underlying59 Try.underlying109 hj (by rw [hjs]; decide) hsh (Nat.zero_lt_succ 1)]
    simp only [Result.andThen]
    rw [Oper.upon_value]
    go_wp2
    rw [run_callFunc_extern Try.func67 (by kernel_rfl) (by kernel_rfl) (by kernel_rfl) (e := Extern.AbiNoEscape.same) (by kernel_rfl)]
    rw [Lib.run_noEscape]
    simp only [Result.andThen]
    rw [Oper.upon_value]
    go_wp2
    rw [Lib.run_from_unsafe w ⟨b, 0, none⟩ Try.underlying109 Try.underlying59 hj hsh (by kernel_rfl)]
    simp only [Result.andThen]
    rw [Oper.upon_value]
    go_wp2
    go_end0
    exact ⟨rfl, H.out.used _, (Below.refl B w).setCell (p := ⟨b, 0, none⟩) H.out.1 _⟩
  · have z0 := h.cell0
    have H := Aside0.mk h
    clear h
    go_enter Try.func43, Try.ntmps43
    go_wp2
    rw [Lib.run_neq_ptr_same w _ Try.underlying59 hj]
    go_wp2
    go_end0
    exact ⟨rfl, H.out, Below.refl B _⟩
set_option maxHeartbeats 1000000 in
set_option maxRecDepth 100000 in
theorem wb_c (B b : Nat) (bs : List Value) (c : Int) (w : World) (h : Lib.IsBuilder 61 5 B b bs w) (hlen : bs.length + 1 ≤ 140737488355328) (hBw : B ≤ w.heap.size) :
    Calls Try.prog 29 #[.pointer (some ⟨b, 0, none⟩), .int .u8 c] w fun e w' => e = .returned .nilIface ∧ Lib.IsBuilder 61 5 B b (bs ++ [.int .u8 c]) w' ∧ Below B w w' := by
  obtain ⟨i0, hi, hz0, hz1, hz2⟩ := info_parts info5x
  have H := Aside0.mk h
  clear h
  go_enter Try.func29, Try.ntmps29
  go_wp2_with (go_at_call 43; (with_reducible refine (check_c B b bs _ H.out).mono ?_))
  rintro e w1 ⟨rfl, h1, hb1⟩
  obtain ⟨hB, v, hbk, hown, hne⟩ := h1
  have HB := Aside0.mk hB
  have K1 := Aside0.mk hbk
  have O1 := Aside0.mk hown
  have NE := Aside0.mk hne
  have BL := Aside0.mk hb1
  have SZ := Aside0.mk hb1.size
  have c0 := blk_cell hbk 0
  have c1 : w1.cell? ⟨b, 1, none⟩ = some v := blk_cell hbk 1
  clear hB hbk hown hne hb1
  go_wp2_with (at_builtin; refine wpList_append_own _ rfl _ _ 45 rfl B 5 i0 (.int .u8 0) 1 1 Try.underlying45 hi hz0 hz1 hz2 rfl (by decide) _ _ _ rfl (O1.out.alloc _) ⟨w1.heap.size, 0, none⟩ 1 1 [.int .u8 c] rfl rfl ?c1 ?c2 ?c3 ?c4 ?c5 ?_)
  case c1 =>
    intro j u hj
    match j, hj with
    | 0, hj => simp at hj; subst hj; simp [Addr.add]
  case c2 => intro u hu; simp at hu; subst hu; rfl
  case c3 => unfold maxLen; omega
  case c4 => omega
  case c5 => have := SZ.out; simp; omega
  intro v' w2 hown' hgrow _
  have hlt := blk_lt K1.out
  have hb2 : w2.heap[b]? = some (.cells #[.pointer (some ⟨b, 0, none⟩), v] 61 (0, 0)) := by
    rw [hgrow.block b (by simp; omega) (fun e => NE.out e.symm)]
    exact (Below.heap_alloc w1 _ b hlt).trans K1.out
  have d0 : w2.cell? ⟨b, 0, none⟩ = some (.pointer (some ⟨b, 0, none⟩)) := blk_cell hb2 0
  have d1 : w2.cell? ⟨b, 1, none⟩ = some v := blk_cell hb2 1
  have f1 : w2.frozen? ⟨b, 1, none⟩ = false := blk_frozen hb2 1
  have K2 := Aside0.mk hb2
  have O2 := Aside0.mk hown'
  have G2 := Aside0.mk hgrow
  obtain ⟨A, cp, rfl⟩ := own_slice hown'
  clear hb2 hown' hgrow
  go_wp2
  go_ret
  refine ⟨rfl, .inr (Lib.BuilderAt.put (T := 61) (e := 5) HB.out K2.out (bs' := bs ++ [.int .u8 c]) (by simpa using O2.out) (by decide)), ?_⟩
  exact ((BL.out.alloc (by have := SZ.out; omega) _).grown G2.out (by have := SZ.out; simp; omega) (fun k hk => own_base O1.out k hk)).setCell (p := ⟨b, 1, none⟩) HB.out _
set_option maxHeartbeats 1000000 in
set_option maxRecDepth 100000 in
theorem ws_c (B b : Nat) (bs : List Value) (s : ByteArray) (w : World) (h : Lib.IsBuilder 61 5 B b bs w) (hlen : bs.length + s.size ≤ 140737488355328) (hBw : B ≤ w.heap.size) :
    Calls Try.prog 62 #[.pointer (some ⟨b, 0, none⟩), .string s] w fun e w' => e = .returned (.tuple #[.int .i64 s.size, .nilIface]) ∧ Lib.IsBuilder 61 5 B b (bs ++ Lib.strCells s) w' ∧ Below B w w' := by
  obtain ⟨i0, hi, hz0, hz1, hz2⟩ := info_parts info5x
  have H := Aside0.mk h
  clear h
  go_enter Try.func62, Try.ntmps62
  go_wp2_with (go_at_call 43; (with_reducible refine (check_c B b bs _ H.out).mono ?_))
  rintro e w1 ⟨rfl, h1, hb1⟩
  obtain ⟨hB, v, hbk, hown, hne⟩ := h1
  have HB := Aside0.mk hB
  have K1 := Aside0.mk hbk
  have O1 := Aside0.mk hown
  have NE := Aside0.mk hne
  have BL := Aside0.mk hb1
  have SZ := Aside0.mk hb1.size
  have c0 := blk_cell hbk 0
  have c1 : w1.cell? ⟨b, 1, none⟩ = some v := blk_cell hbk 1
  clear hB hbk hown hne hb1
  go_wp2_with (at_builtin; refine Lib.wpList_append_own_string _ rfl _ _ 45 9 rfl B 5 i0 Try.underlying45 Try.underlying9 hi hz0 hz1 hz2 _ _ _ rfl O1.out s rfl ?c3 ?c4 ?c5 ?_)
  case c3 => unfold maxLen; omega
  case c4 => omega
  case c5 => have := SZ.out; omega
  intro v' w2 hown' hgrow _
  have hlt := blk_lt K1.out
  have hb2 : w2.heap[b]? = some (.cells #[.pointer (some ⟨b, 0, none⟩), v] 61 (0, 0)) := by
    rw [hgrow.block b hlt (fun e => NE.out e.symm)]
    exact K1.out
  have d0 : w2.cell? ⟨b, 0, none⟩ = some (.pointer (some ⟨b, 0, none⟩)) := blk_cell hb2 0
  have d1 : w2.cell? ⟨b, 1, none⟩ = some v := blk_cell hb2 1
  have f1 : w2.frozen? ⟨b, 1, none⟩ = false := blk_frozen hb2 1
  have K2 := Aside0.mk hb2
  have O2 := Aside0.mk hown'
  have G2 := Aside0.mk hgrow
  obtain ⟨A, n', cp, rfl⟩ : ∃ A n' cp, v' = .slice A n' cp := by
    rcases hown'.2 with ⟨hv, _⟩ | ⟨g, cap, cur, hv, _⟩
    · exact ⟨_, _, _, hv⟩
    · exact ⟨_, _, _, hv⟩
  clear hb2 hown' hgrow
  go_wp2
  go_ret2
  refine ⟨rfl, .inr (Lib.BuilderAt.put (T := 61) (e := 5) HB.out K2.out (bs' := bs ++ Lib.strCells s) (by simpa [Lib.strCells_length] using O2.out) (by decide)), ?_⟩
  exact (BL.out.grown G2.out (by have := SZ.out; omega) (fun k hk => own_base O1.out k hk)).setCell (p := ⟨b, 1, none⟩) HB.out _
/-- A builder stays one where its blocks stay. -/
theorem build_below {B b : Nat} {bs : List Value} {w w1 : World} (h : Lib.IsBuilder 61 5 B b bs w) (hb : Below w.heap.size w w1) : Lib.IsBuilder 61 5 B b bs w1 := by
  have step : ∀ {p}, Lib.BuilderAt 61 5 B b p bs w → Lib.BuilderAt 61 5 B b p bs w1 := by
    rintro p ⟨hB, v, hk, ho, hn⟩
    exact ⟨hB, v, blk_below hk hb, own_move ho (fun k hk => hb.block k (own_lt ho k hk)), hn⟩
  exact h.elim (fun h => .inl (step h)) (fun h => .inr (step h))
theorem strCells_nums (ds : List Int) (h : ∀ d ∈ ds, 0 ≤ d ∧ d < 256) : Lib.strCells (strOfNums ds) = nums .u8 ds := by
  unfold Lib.strCells strOfNums nums
  simp only [List.map_map]
  refine List.map_congr_left (fun d hd => ?_)
  have := h d hd
  simp only [Function.comp, UInt8.toNat_ofNat']
  congr 1
  omega
theorem byteCells_nums (ds : List Int) (h : ∀ d ∈ ds, 0 ≤ d ∧ d < 256) : Lib.byteCells (ds.map fun n => UInt8.ofNat n.toNat) = nums .u8 ds := by
  unfold Lib.byteCells nums
  simp only [List.map_map]
  refine List.map_congr_left (fun d hd => ?_)
  have := h d hd
  simp only [Function.comp, UInt8.toNat_ofNat']
  congr 1
  omega
end Go.Proofs.Ytbekfmeaeaghpaa.EBuild
namespace Go.Proofs.Ytbekfmeaeaghpaa.EInstr
open Go Go.RowKit Go.Proofs.Ytbekfmeaeaghpaa.F Go.Proofs.YtbekfmeaeaghpaaW.Hand Go.Proofs.YtbekfmeaeaghpaaW.PrintWords Go.Proofs.YtbekfmeaeaghpaaW.PrintLast Go.Proofs.YtbekfmeaeaghpaaW.PrintMore
open Go.Proofs.Ytbekfmeaeaghpaa.EBuild
open Go.Proofs.Ytbekfmeaeaghpaa.LebMath (U S)
set_option linter.unusedVariables false
set_option linter.unusedSimpArgs false

theorem mem_rng {ds : List Int} (hr : ∀ i, 0 ≤ LebBacks.nth ds i ∧ LebBacks.nth ds i < 256) : ∀ d ∈ ds, 0 ≤ d ∧ d < 256 := by
  intro d hd
  obtain ⟨i, hi, rfl⟩ := List.getElem_of_mem hd
  have := hr i
  unfold LebBacks.nth at this
  rwa [List.getD_eq_getElem?_getD, List.getElem?_eq_getElem hi] at this
def uB (x : Int) : List Int := U 9 (x % 18446744073709551616)
def sB (x : Int) : List Int := S 9 x
theorem uB_spec (x : Int) : LebBacks.USpec (uB x) (x % 18446744073709551616) ∧ (uB x).length ≤ 10 := LebBacks.U9 _ (by omega) (by omega)
theorem uB_rng (x : Int) : ∀ d ∈ uB x, 0 ≤ d ∧ d < 256 := mem_rng (uB_spec x).1.range
theorem sB_spec (x : Int) (h0 : -9223372036854775808 ≤ x) (h1 : x < 9223372036854775808) : LebBacks.SSpec (sB x) x ∧ (sB x).length ≤ 10 := LebBacks.S9 x h0 h1
theorem sB_rng (x : Int) (h0 : -9223372036854775808 ≤ x) (h1 : x < 9223372036854775808) : ∀ d ∈ sB x, 0 ≤ d ∧ d < 256 := mem_rng (sB_spec x h0 h1).1.range
/-- A number's low bytes, from the i-th on. -/
def lowB (x : Int) : Nat → Nat → List Int
  | 0, _ => []
  | k + 1, i => x / 2 ^ (8 * i) % 256 :: lowB x k (i + 1)
def signF (x : Int) : Int := wrap64 (wrap32 x)
/-- What stands behind an Op; the bytes of what stands within it are given. -/
def behind (x : S44) (body els : List Int) : List Int :=
  if ofF x.f0 = 2 then x.f4 % 256 :: (body ++ (if 0 < x.f7.length then 5 :: els else []) ++ [11])
  else if ofF x.f0 = 3 then uB x.f1
  else if ofF x.f0 = 4 then uB ((x.f5.length : Int) - 1) ++ x.f5.flatMap uB
  else if ofF x.f0 = 5 then uB x.f1 ++ [0]
  else if ofF x.f0 = 6 then uB x.f1 ++ uB x.f2
  else if ofF x.f0 = 7 then [0]
  else if ofF x.f0 = 8 then sB (if x.f0 = 65 then signF x.f3 else x.f3)
  else if ofF x.f0 = 9 then lowB x.f3 (if wideB x.f0 = true then 8 else 4) 0
  else []
theorem size44 (x : S44) : SizeOf.sizeOf x.f6 < SizeOf.sizeOf x ∧ SizeOf.sizeOf x.f7 < SizeOf.sizeOf x := by
  cases x
  simp
  omega
/-- A list's bytes, without its end. -/
def putL : List S44 → List Int
  | [] => []
  | x :: xs => (x.f0 % 256 :: behind x (putL x.f6) (putL x.f7)) ++ putL xs
termination_by l => SizeOf.sizeOf l
decreasing_by
  all_goals
    have := size44 x
    simp
    omega
def oneL (x : S44) : List Int := x.f0 % 256 :: behind x (putL x.f6) (putL x.f7)
theorem putL_nil : putL [] = [] := by rw [putL]
theorem putL_cons (x : S44) (xs : List S44) : putL (x :: xs) = oneL x ++ putL xs := by
  rw [putL]
  rfl
theorem putL_append (a b : List S44) : putL (a ++ b) = putL a ++ putL b := by
  induction a with
  | nil => rw [List.nil_append, putL_nil, List.nil_append]
  | cons x xs ih => rw [List.cons_append, putL_cons, putL_cons, ih, List.append_assoc]
/-- What a writer leaves. -/
def PutPost (w0 : World) (b : Nat) (ds : List Int) (e : Ending) (w' : World) : Prop := e = .returned (.tuple #[]) ∧ Lib.IsBuilder 61 5 w0.heap.size b (nums .u8 ds) w' ∧ Below w0.heap.size w0 w'
theorem nums_snoc (ds : List Int) (c : Int) : nums .u8 ds ++ [.int .u8 c] = nums .u8 (ds ++ [c]) := by simp [nums]
theorem nums_app (a b : List Int) : nums .u8 a ++ nums .u8 b = nums .u8 (a ++ b) := by simp [nums]
theorem wbn_c {w0 W : World} {b : Nat} {acc : List Int} (c : Int) (h : Lib.IsBuilder 61 5 w0.heap.size b (nums .u8 acc) W) (hb : Below w0.heap.size w0 W) (hlen : acc.length + 1 ≤ 140737488355328) :
    Calls Try.prog 29 #[.pointer (some ⟨b, 0, none⟩), .int .u8 c] W fun e w' => e = .returned .nilIface ∧ Lib.IsBuilder 61 5 w0.heap.size b (nums .u8 (acc ++ [c])) w' ∧ Below w0.heap.size w0 w' :=
  (wb_c w0.heap.size b _ c W h (by simpa [nums] using hlen) hb.size).mono fun _ _ hh => ⟨hh.1, nums_snoc acc c ▸ hh.2.1, hb.trans hh.2.2⟩
theorem wsn_c {w0 W : World} {b : Nat} {acc : List Int} (ds : List Int) (hr : ∀ d ∈ ds, 0 ≤ d ∧ d < 256) (h : Lib.IsBuilder 61 5 w0.heap.size b (nums .u8 acc) W) (hb : Below w0.heap.size w0 W) (hlen : acc.length + ds.length ≤ 140737488355328) :
    Calls Try.prog 62 #[.pointer (some ⟨b, 0, none⟩), .string (strOfNums ds)] W fun e w' => (∃ v, e = .returned v) ∧ Lib.IsBuilder 61 5 w0.heap.size b (nums .u8 (acc ++ ds)) w' ∧ Below w0.heap.size w0 w' :=
  (ws_c w0.heap.size b _ (strOfNums ds) W h (by simpa [nums, LebBacks.size_str] using hlen) hb.size).mono fun _ _ hh => ⟨⟨_, hh.1⟩, by have := hh.2.1; rwa [strCells_nums ds hr, nums_app] at this, hb.trans hh.2.2⟩
theorem leb_c (x : Int) (w : World) : Calls Try.prog 63 #[.int .i64 x] w fun e w' => e = .returned (.string (strOfNums (uB x))) ∧ Below w.heap.size w w' := by
  obtain ⟨k, hk⟩ := (LebFns.put_ev x).rounds
  exact (leb_Put.calls k x _ w hk).mono fun _ _ hh => ⟨hh.1, by first | exact hh.2 | exact hh.2.below⟩
theorem lebs_c {x : Int} (h0 : -9223372036854775808 ≤ x) (h1 : x < 9223372036854775808) (w : World) : Calls Try.prog 65 #[.int .i64 x] w fun e w' => e = .returned (.string (strOfNums (sB x))) ∧ Below w.heap.size w w' := by
  obtain ⟨k, hk⟩ := (LebFns.puts_ev x h0 h1).rounds
  exact (leb_PutSigned.calls k x _ w hk).mono fun _ _ hh => ⟨hh.1, by first | exact hh.2 | exact hh.2.below⟩
theorem sign_c (x : Int) (w : World) : Calls Try.prog 64 #[.int .i64 x] w fun e w' => e = .returned (.int .i64 (signF x)) ∧ Below w.heap.size w w' := (bits_Sign.calls x _ w rfl).mono fun _ _ hh => ⟨hh.1, hh.2.below⟩
theorem below_next {w0 W w' : World} (hb : Below w0.heap.size w0 W) (h : Below W.heap.size W w') : Below w0.heap.size w0 w' := below_step hb h
end Go.Proofs.Ytbekfmeaeaghpaa.EInstr
namespace Go.Proofs.Ytbekfmeaeaghpaa.EInstr
open Go Go.RowKit Go.Proofs.Ytbekfmeaeaghpaa.F Go.Proofs.YtbekfmeaeaghpaaW.Hand Go.Proofs.YtbekfmeaeaghpaaW.PrintWords Go.Proofs.YtbekfmeaeaghpaaW.PrintLast Go.Proofs.YtbekfmeaeaghpaaW.PrintMore
open Go.Proofs.Ytbekfmeaeaghpaa.EBuild
open Go.Proofs.Ytbekfmeaeaghpaa.LebMath (U S)
set_option linter.unusedVariables false
set_option linter.unusedSimpArgs false

def RelLowP (w0 : World) (b : Nat) (acc : List Int) (x : Int) (many : Nat) (v8 : Value) (wr : World) : Prop :=
  ∃ (k i : Nat) (ds : List Int), i + k = many ∧ v8 = .int .i64 i ∧ Lib.IsBuilder 61 5 w0.heap.size b (nums .u8 (acc ++ ds)) wr ∧ Below w0.heap.size w0 wr ∧ ds ++ lowB x k i = lowB x many 0 ∧ ds.length = i
theorem lowB_len (x : Int) : ∀ k i, (lowB x k i).length = k
  | 0, _ => rfl
  | k + 1, i => by rw [lowB, List.length_cons, lowB_len]
theorem lowp_c {w0 W : World} {b : Nat} {acc : List Int} (x : Int) (many : Nat) (hm : many ≤ 8) (h : Lib.IsBuilder 61 5 w0.heap.size b (nums .u8 acc) W) (hb : Below w0.heap.size w0 W) (hlen : acc.length + many ≤ 140737488355328) :
    Calls Try.prog 66 #[.pointer (some ⟨b, 0, none⟩), .int .i64 x, .int .i64 many] W (PutPost w0 b (acc ++ lowB x many 0)) := by
  have H := Aside0.mk h
  have HB := Aside0.mk hb
  have HL := Aside0.mk hlen
  clear h hb hlen
  go_enter Try.func66, Try.ntmps66
  go_wp2
  go_loopw [8] (fun v8 wr => RelLowP w0 b acc x many v8 wr) (fun v8 _ => many - (intOf v8).toNat)
  case atStart => exact ⟨many, 0, [], by omega, rfl, by simpa using H.out, HB.out, rfl, rfl⟩
  case round =>
    obtain ⟨k, i, ds, hk, rfl, hI, hW, hE, hd⟩ := hrel
    have HI := Aside0.mk hI
    have HW := Aside0.mk hW
    have HE := Aside0.mk hE
    have HD := Aside0.mk hd
    have HK := Aside0.mk hk
    clear hI hW hE hd
    by_cases hlt : i < many
    · have dl : decide (i < many) = true := decide_eq_true hlt
      have dl2 : decide ((i : Int) < (many : Int)) = true := decide_eq_true (by omega)
      obtain ⟨j, rfl⟩ : ∃ j, k = j + 1 := ⟨k - 1, by omega⟩
      have w1 : wrap64 (8 * (i : Int)) = 8 * (i : Int) := by unfold wrap64; omega
      have w2 : wrap64 ((i : Int) + 1) = (i : Int) + 1 := by unfold wrap64; omega
      have w3 : (0 : Int) ≤ 8 * (i : Int) := by omega
      go_wp2_with (go_at_call 29; (with_reducible refine (wbn_c (acc := acc ++ ds) (x / 2 ^ (8 * i) % 256) HI.out HW.out (by have := HL.out; have := HD.out; have := HK.out; rw [List.length_append]; omega)).mono ?_); rintro e w2 ⟨rfl, h1, h2⟩; have H1 := Aside0.mk h1; have H2 := Aside0.mk h2; clear h1 h2)
      refine ⟨⟨j, i + 1, ds ++ [x / 2 ^ (8 * i) % 256], by have := HK.out; omega, by simp, by rw [← List.append_assoc]; exact H1.out, H2.out, ?_, by simp [HD.out]⟩, by simp [intOf]; omega⟩
      rw [List.append_assoc, List.singleton_append]
      have := HE.out
      rw [lowB] at this
      exact this
    · have dl : decide (i < many) = false := decide_eq_false hlt
      have dl2 : decide ((i : Int) < (many : Int)) = false := decide_eq_false (by omega)
      obtain rfl : k = 0 := by omega
      go_wp2
      go_end0
      refine ⟨rfl, ?_, HW.out⟩
      have := HE.out
      rw [lowB, List.append_nil] at this
      rw [← this]
      exact HI.out

/-- Each number that stands in a constant is one of 64 bits. -/
def wf64 : List S44 → Prop
  | [] => True
  | x :: xs => (-9223372036854775808 ≤ x.f3 ∧ x.f3 < 9223372036854775808) ∧ wf64 x.f6 ∧ wf64 x.f7 ∧ wf64 xs
termination_by l => SizeOf.sizeOf l
decreasing_by
  all_goals
    have := size44 x
    simp
    try omega
/-- put's contract for lists no larger than sz. -/
def PutOk (w0 : World) (sz : Nat) : Prop := ∀ (is : List S44), SizeOf.sizeOf is ≤ sz → ∀ (b : Nat) (acc : List Int) (W : World) (A : Option Addr) (c : Nat), k44.C w0 A is.length is → is.length ≤ c → Lib.IsBuilder 61 5 w0.heap.size b (nums .u8 acc) W → Below w0.heap.size w0 W → acc.length + (putL is).length ≤ 140737488355328 → wf64 is →
  Calls Try.prog 28 #[.pointer (some ⟨b, 0, none⟩), .slice A is.length c] W (PutPost w0 b (acc ++ putL is))
structure PutIh (w0 : World) (sz : Nat) : Prop where
  out : ∀ (is : List S44), SizeOf.sizeOf is ≤ sz → ∀ (b : Nat) (acc : List Int) (W : World) (A : Option Addr) (c : Nat), k44.C w0 A is.length is → is.length ≤ c → Lib.IsBuilder 61 5 w0.heap.size b (nums .u8 acc) W → Below w0.heap.size w0 W → acc.length + (putL is).length ≤ 140737488355328 → wf64 is →
    Calls Try.prog 28 #[.pointer (some ⟨b, 0, none⟩), .slice A is.length c] W (PutPost w0 b (acc ++ putL is))
theorem ofp_w {op k : Int} (h : ofF op = k) (w : World) : Calls Try.prog 40 #[.int .i64 op] w fun e w' => e = .returned (.int .i64 k) ∧ Below w.heap.size w w' := by
  subst h
  exact (of_c op w).mono fun _ _ hh => ⟨hh.1, hh.2.below⟩
theorem widep_w {op : Int} {b : Bool} (h : wideB op = b) (w : World) : Calls Try.prog 58 #[.int .i64 op] w fun e w' => e = .returned (.bool b) ∧ Below w.heap.size w w' := by
  subst h
  exact (wide_c op w).mono fun _ _ hh => ⟨hh.1, hh.2.below⟩
theorem put_done {w0 W : World} {b : Nat} {ds ds' : List Int} {e : Ending} (he : e = .returned (.tuple #[])) (h : Lib.IsBuilder 61 5 w0.heap.size b (nums .u8 ds) W) (hb : Below w0.heap.size w0 W) (hd : ds = ds') : PutPost w0 b ds' e W := by
  subst hd
  exact ⟨he, h, hb⟩

theorem str_app (a b : List Int) : strOfNums a ++ strOfNums b = strOfNums (a ++ b) := by
  apply ByteArray.ext
  simp [strOfNums, ByteArray.data_append]
theorem str_zero (a : List Int) : strOfNums a ++ ⟨#[0]⟩ = strOfNums (a ++ [0]) := by
  rw [← str_app]
  rfl
theorem ws0_c {w0 W : World} {b : Nat} {acc : List Int} (ds : List Int) (hr : ∀ d ∈ ds, 0 ≤ d ∧ d < 256) (h : Lib.IsBuilder 61 5 w0.heap.size b (nums .u8 acc) W) (hb : Below w0.heap.size w0 W) (hlen : acc.length + (ds ++ [0]).length ≤ 140737488355328) :
    Calls Try.prog 62 #[.pointer (some ⟨b, 0, none⟩), .string (strOfNums ds ++ ⟨#[0]⟩)] W fun e w' => (∃ v, e = .returned v) ∧ Lib.IsBuilder 61 5 w0.heap.size b (nums .u8 (acc ++ (ds ++ [0]))) w' ∧ Below w0.heap.size w0 w' := by
  rw [str_zero]
  exact wsn_c _ (fun d hd => by rcases List.mem_append.1 hd with h | h; exact hr d h; (simp at h; omega)) h hb hlen
theorem ws2_c {w0 W : World} {b : Nat} {acc : List Int} (ds es : List Int) (hr : ∀ d ∈ ds, 0 ≤ d ∧ d < 256) (hr2 : ∀ d ∈ es, 0 ≤ d ∧ d < 256) (h : Lib.IsBuilder 61 5 w0.heap.size b (nums .u8 acc) W) (hb : Below w0.heap.size w0 W) (hlen : acc.length + (ds ++ es).length ≤ 140737488355328) :
    Calls Try.prog 62 #[.pointer (some ⟨b, 0, none⟩), .string (strOfNums ds ++ strOfNums es)] W fun e w' => (∃ v, e = .returned v) ∧ Lib.IsBuilder 61 5 w0.heap.size b (nums .u8 (acc ++ (ds ++ es))) w' ∧ Below w0.heap.size w0 w' := by
  rw [str_app]
  exact wsn_c _ (fun d hd => by rcases List.mem_append.1 hd with h | h; exact hr d h; exact hr2 d h) h hb hlen

theorem lowp_8 {w0 W : World} {b : Nat} {acc : List Int} (x : Int) (h : Lib.IsBuilder 61 5 w0.heap.size b (nums .u8 acc) W) (hb : Below w0.heap.size w0 W) (hlen : acc.length + 8 ≤ 140737488355328) :
    Calls Try.prog 66 #[.pointer (some ⟨b, 0, none⟩), .int .i64 x, .int .i64 8] W (PutPost w0 b (acc ++ lowB x 8 0)) := lowp_c x 8 (by decide) h hb hlen
theorem lowp_4 {w0 W : World} {b : Nat} {acc : List Int} (x : Int) (h : Lib.IsBuilder 61 5 w0.heap.size b (nums .u8 acc) W) (hb : Below w0.heap.size w0 W) (hlen : acc.length + 4 ≤ 140737488355328) :
    Calls Try.prog 66 #[.pointer (some ⟨b, 0, none⟩), .int .i64 x, .int .i64 4] W (PutPost w0 b (acc ++ lowB x 4 0)) := lowp_c x 4 (by decide) h hb hlen
def RelLabP (w0 : World) (b : Nat) (acc : List Int) (l : List Int) (v : Value) (wr : World) : Prop :=
  ∃ i : Nat, i ≤ l.length ∧ v = .int .i64 i ∧ Lib.IsBuilder 61 5 w0.heap.size b (nums .u8 (acc ++ (l.take i).flatMap uB)) wr ∧ Below w0.heap.size w0 wr
section
variable {w0 W : World} {b : Nat} {acc : List Int} {ad : Addr} {x : S44} {A5 A6 A7 : Option Addr} {c5 c6 c7 : Nat} {sz : Nat} (ih : PutIh w0 sz) (z0 : w0.cell? ad = some (.int .i64 x.f0)) (z1 : w0.cell? ⟨ad.block, ad.off + 1, none⟩ = some (.int .i64 x.f1)) (z2 : w0.cell? ⟨ad.block, ad.off + 2, none⟩ = some (.int .i64 x.f2)) (z3 : w0.cell? ⟨ad.block, ad.off + 3, none⟩ = some (.int .i64 x.f3)) (z4 : w0.cell? ⟨ad.block, ad.off + 4, none⟩ = some (.int .i64 x.f4)) (z5 : w0.cell? ⟨ad.block, ad.off + 5, none⟩ = some (.slice A5 x.f5.length c5)) (z6 : w0.cell? ⟨ad.block, ad.off + 6, none⟩ = some (.slice A6 x.f6.length c6)) (z7 : w0.cell? ⟨ad.block, ad.off + 7, none⟩ = some (.slice A7 x.f7.length c7)) (l5 : x.f5.length ≤ c5) (C5 : (Kd.int .i64).C w0 A5 x.f5.length x.f5) (l6 : x.f6.length ≤ c6) (C6 : k44.C w0 A6 x.f6.length x.f6) (l7 : x.f7.length ≤ c7) (C7 : k44.C w0 A7 x.f7.length x.f7) (s6 : SizeOf.sizeOf x.f6 ≤ sz) (s7 : SizeOf.sizeOf x.f7 ≤ sz) (hI : Lib.IsBuilder 61 5 w0.heap.size b (nums .u8 acc) W) (hB : Below w0.heap.size w0 W) (hlen : acc.length + (oneL x).length ≤ 140737488355328) (wf : -9223372036854775808 ≤ x.f3 ∧ x.f3 < 9223372036854775808) (wf6 : wf64 x.f6) (wf7 : wf64 x.f7)
set_option linter.unusedSectionVars false
include ih z0 z1 z2 z3 z4 z5 z6 z7 l5 C5 l6 C6 l7 C7 s6 s7 hI hB hlen wf wf6 wf7
set_option maxHeartbeats 4000000 in
set_option maxRecDepth 100000 in
theorem putone_1 (hk : ofF x.f0 = 1) :
    Calls Try.prog 42 #[.pointer (some ⟨b, 0, none⟩), .pointer (some ad)] W (PutPost w0 b (acc ++ oneL x)) := by
  have e1 : oneL x = x.f0 % 256 :: [] := by
    unfold oneL behind
    rw [hk]
    simp
  rw [e1] at hlen ⊢
  have y0 : W.cell? ad = some (.int .i64 x.f0) := pw_cell_below hB z0
  have HI0 := Aside0.mk hI
  have HB0 := Aside0.mk hB
  have HL := Aside0.mk hlen
  have WF := Aside0.mk wf
  have WF6 := Aside0.mk wf6
  have WF7 := Aside0.mk wf7
  have C5' := Aside0.mk C5
  have C6' := Aside0.mk C6
  have C7' := Aside0.mk C7
  have L5 := Aside0.mk l5
  have L6 := Aside0.mk l6
  have L7 := Aside0.mk l7
  have SZ6 := Aside0.mk s6
  have SZ7 := Aside0.mk s7
  have Z0 := Aside0.mk z0
  have Z1 := Aside0.mk z1
  have Z2 := Aside0.mk z2
  have Z3 := Aside0.mk z3
  have Z4 := Aside0.mk z4
  have Z5 := Aside0.mk z5
  have Z6 := Aside0.mk z6
  have Z7 := Aside0.mk z7
  clear hI hB hlen wf wf6 wf7 C5 C6 C7 l5 l6 l7 s6 s7 e1 z0 z1 z2 z3 z4 z5 z6 z7
  go_enter Try.func42, Try.ntmps42
  go_wp2_with (first
    | (go_at_call 29; (with_reducible refine (wbn_c (acc := acc) (x.f0 % 256) HI0.out HB0.out (by have := HL.out; simp only [List.length_append, List.length_cons, List.length_nil, List.length_singleton] at this ⊢; omega)).mono ?_); rintro e w1 ⟨rfl, h1, h2⟩; have HI1 := Aside0.mk h1; have HB1 := Aside0.mk h2; clear HI0 HB0 y0; clear h1 h2; have y0 : w1.cell? ad = some (.int .i64 x.f0) := pw_cell_below HB1.out Z0.out;)
    | (go_at_call 40; (with_reducible refine (ofp_w hk _).mono ?_); rintro e w2 ⟨rfl, h2⟩; have HI2 := Aside0.mk (build_below HI1.out h2); have HB2 := Aside0.mk (below_next HB1.out h2); clear HI1 HB1 y0; clear h2; have y0 : w2.cell? ad = some (.int .i64 x.f0) := pw_cell_below HB2.out Z0.out;))
  go_end0
  exact put_done rfl HI2.out HB2.out (by simp)

set_option maxHeartbeats 4000000 in
set_option maxRecDepth 100000 in
theorem putone_3 (hk : ofF x.f0 = 3) :
    Calls Try.prog 42 #[.pointer (some ⟨b, 0, none⟩), .pointer (some ad)] W (PutPost w0 b (acc ++ oneL x)) := by
  have e1 : oneL x = x.f0 % 256 :: uB x.f1 := by
    unfold oneL behind
    rw [hk]
    simp
  rw [e1] at hlen ⊢
  have y0 : W.cell? ad = some (.int .i64 x.f0) := pw_cell_below hB z0
  have y1 : W.cell? ⟨ad.block, ad.off + 1, none⟩ = some (.int .i64 x.f1) := pw_cell_below hB z1
  have HI0 := Aside0.mk hI
  have HB0 := Aside0.mk hB
  have HL := Aside0.mk hlen
  have WF := Aside0.mk wf
  have WF6 := Aside0.mk wf6
  have WF7 := Aside0.mk wf7
  have C5' := Aside0.mk C5
  have C6' := Aside0.mk C6
  have C7' := Aside0.mk C7
  have L5 := Aside0.mk l5
  have L6 := Aside0.mk l6
  have L7 := Aside0.mk l7
  have SZ6 := Aside0.mk s6
  have SZ7 := Aside0.mk s7
  have Z0 := Aside0.mk z0
  have Z1 := Aside0.mk z1
  have Z2 := Aside0.mk z2
  have Z3 := Aside0.mk z3
  have Z4 := Aside0.mk z4
  have Z5 := Aside0.mk z5
  have Z6 := Aside0.mk z6
  have Z7 := Aside0.mk z7
  clear hI hB hlen wf wf6 wf7 C5 C6 C7 l5 l6 l7 s6 s7 e1 z0 z1 z2 z3 z4 z5 z6 z7
  go_enter Try.func42, Try.ntmps42
  go_wp2_with (first
    | (go_at_call 29; (with_reducible refine (wbn_c (acc := acc) (x.f0 % 256) HI0.out HB0.out (by have := HL.out; simp only [List.length_append, List.length_cons, List.length_nil, List.length_singleton] at this ⊢; omega)).mono ?_); rintro e w1 ⟨rfl, h1, h2⟩; have HI1 := Aside0.mk h1; have HB1 := Aside0.mk h2; clear HI0 HB0 y0 y1; clear h1 h2; have y0 : w1.cell? ad = some (.int .i64 x.f0) := pw_cell_below HB1.out Z0.out; have y1 : w1.cell? ⟨ad.block, ad.off + 1, none⟩ = some (.int .i64 x.f1) := pw_cell_below HB1.out Z1.out;)
    | (go_at_call 40; (with_reducible refine (ofp_w hk _).mono ?_); rintro e w2 ⟨rfl, h2⟩; have HI2 := Aside0.mk (build_below HI1.out h2); have HB2 := Aside0.mk (below_next HB1.out h2); clear HI1 HB1 y0 y1; clear h2; have y0 : w2.cell? ad = some (.int .i64 x.f0) := pw_cell_below HB2.out Z0.out; have y1 : w2.cell? ⟨ad.block, ad.off + 1, none⟩ = some (.int .i64 x.f1) := pw_cell_below HB2.out Z1.out;)
    | (go_at_call 63; (with_reducible refine (leb_c _ _).mono ?_); rintro e w3 ⟨rfl, h2⟩; have HI3 := Aside0.mk (build_below HI2.out h2); have HB3 := Aside0.mk (below_next HB2.out h2); clear HI2 HB2 y0 y1; clear h2; have y0 : w3.cell? ad = some (.int .i64 x.f0) := pw_cell_below HB3.out Z0.out; have y1 : w3.cell? ⟨ad.block, ad.off + 1, none⟩ = some (.int .i64 x.f1) := pw_cell_below HB3.out Z1.out;)
    | (go_at_call 62; (with_reducible refine (wsn_c (acc := (acc ++ [x.f0 % 256])) (uB x.f1) (uB_rng _) HI3.out HB3.out (by have := HL.out; simp only [List.length_append, List.length_cons, List.length_nil, List.length_singleton] at this ⊢; omega)).mono ?_); rintro e w4 ⟨⟨v4, rfl⟩, h1, h2⟩; have HI4 := Aside0.mk h1; have HB4 := Aside0.mk h2; clear HI3 HB3 y0 y1; clear h1 h2; have y0 : w4.cell? ad = some (.int .i64 x.f0) := pw_cell_below HB4.out Z0.out; have y1 : w4.cell? ⟨ad.block, ad.off + 1, none⟩ = some (.int .i64 x.f1) := pw_cell_below HB4.out Z1.out;))
  go_end0
  exact put_done rfl HI4.out HB4.out (by simp)

set_option maxHeartbeats 4000000 in
set_option maxRecDepth 100000 in
theorem putone_7 (hk : ofF x.f0 = 7) :
    Calls Try.prog 42 #[.pointer (some ⟨b, 0, none⟩), .pointer (some ad)] W (PutPost w0 b (acc ++ oneL x)) := by
  have e1 : oneL x = x.f0 % 256 :: [0] := by
    unfold oneL behind
    rw [hk]
    simp
  rw [e1] at hlen ⊢
  have y0 : W.cell? ad = some (.int .i64 x.f0) := pw_cell_below hB z0
  have HI0 := Aside0.mk hI
  have HB0 := Aside0.mk hB
  have HL := Aside0.mk hlen
  have WF := Aside0.mk wf
  have WF6 := Aside0.mk wf6
  have WF7 := Aside0.mk wf7
  have C5' := Aside0.mk C5
  have C6' := Aside0.mk C6
  have C7' := Aside0.mk C7
  have L5 := Aside0.mk l5
  have L6 := Aside0.mk l6
  have L7 := Aside0.mk l7
  have SZ6 := Aside0.mk s6
  have SZ7 := Aside0.mk s7
  have Z0 := Aside0.mk z0
  have Z1 := Aside0.mk z1
  have Z2 := Aside0.mk z2
  have Z3 := Aside0.mk z3
  have Z4 := Aside0.mk z4
  have Z5 := Aside0.mk z5
  have Z6 := Aside0.mk z6
  have Z7 := Aside0.mk z7
  clear hI hB hlen wf wf6 wf7 C5 C6 C7 l5 l6 l7 s6 s7 e1 z0 z1 z2 z3 z4 z5 z6 z7
  go_enter Try.func42, Try.ntmps42
  go_wp2_with (first
    | (go_at_call 29; (with_reducible refine (wbn_c (acc := acc) (x.f0 % 256) HI0.out HB0.out (by have := HL.out; simp only [List.length_append, List.length_cons, List.length_nil, List.length_singleton] at this ⊢; omega)).mono ?_); rintro e w1 ⟨rfl, h1, h2⟩; have HI1 := Aside0.mk h1; have HB1 := Aside0.mk h2; clear HI0 HB0 y0; clear h1 h2; have y0 : w1.cell? ad = some (.int .i64 x.f0) := pw_cell_below HB1.out Z0.out;)
    | (go_at_call 40; (with_reducible refine (ofp_w hk _).mono ?_); rintro e w2 ⟨rfl, h2⟩; have HI2 := Aside0.mk (build_below HI1.out h2); have HB2 := Aside0.mk (below_next HB1.out h2); clear HI1 HB1 y0; clear h2; have y0 : w2.cell? ad = some (.int .i64 x.f0) := pw_cell_below HB2.out Z0.out;)
    | (go_at_call 29; (with_reducible refine (wbn_c (acc := (acc ++ [x.f0 % 256])) (0) HI2.out HB2.out (by have := HL.out; simp only [List.length_append, List.length_cons, List.length_nil, List.length_singleton] at this ⊢; omega)).mono ?_); rintro e w3 ⟨rfl, h1, h2⟩; have HI3 := Aside0.mk h1; have HB3 := Aside0.mk h2; clear HI2 HB2 y0; clear h1 h2; have y0 : w3.cell? ad = some (.int .i64 x.f0) := pw_cell_below HB3.out Z0.out;))
  go_end0
  exact put_done rfl HI3.out HB3.out (by simp)

set_option maxHeartbeats 4000000 in
set_option maxRecDepth 100000 in
theorem putone_5 (hk : ofF x.f0 = 5) :
    Calls Try.prog 42 #[.pointer (some ⟨b, 0, none⟩), .pointer (some ad)] W (PutPost w0 b (acc ++ oneL x)) := by
  have e1 : oneL x = x.f0 % 256 :: (uB x.f1 ++ [0]) := by
    unfold oneL behind
    rw [hk]
    simp
  rw [e1] at hlen ⊢
  have NU : ¬ 9223372036854775807 < (strOfNums (uB x.f1)).size + 1 := by rw [LebBacks.size_str]; have := (uB_spec x.f1).2; omega
  have y0 : W.cell? ad = some (.int .i64 x.f0) := pw_cell_below hB z0
  have y1 : W.cell? ⟨ad.block, ad.off + 1, none⟩ = some (.int .i64 x.f1) := pw_cell_below hB z1
  have HI0 := Aside0.mk hI
  have HB0 := Aside0.mk hB
  have HL := Aside0.mk hlen
  have WF := Aside0.mk wf
  have WF6 := Aside0.mk wf6
  have WF7 := Aside0.mk wf7
  have C5' := Aside0.mk C5
  have C6' := Aside0.mk C6
  have C7' := Aside0.mk C7
  have L5 := Aside0.mk l5
  have L6 := Aside0.mk l6
  have L7 := Aside0.mk l7
  have SZ6 := Aside0.mk s6
  have SZ7 := Aside0.mk s7
  have Z0 := Aside0.mk z0
  have Z1 := Aside0.mk z1
  have Z2 := Aside0.mk z2
  have Z3 := Aside0.mk z3
  have Z4 := Aside0.mk z4
  have Z5 := Aside0.mk z5
  have Z6 := Aside0.mk z6
  have Z7 := Aside0.mk z7
  clear hI hB hlen wf wf6 wf7 C5 C6 C7 l5 l6 l7 s6 s7 e1 z0 z1 z2 z3 z4 z5 z6 z7
  go_enter Try.func42, Try.ntmps42
  go_wp2_with (first
    | (go_at_call 29; (with_reducible refine (wbn_c (acc := acc) (x.f0 % 256) HI0.out HB0.out (by have := HL.out; simp only [List.length_append, List.length_cons, List.length_nil, List.length_singleton] at this ⊢; omega)).mono ?_); rintro e w1 ⟨rfl, h1, h2⟩; have HI1 := Aside0.mk h1; have HB1 := Aside0.mk h2; clear HI0 HB0 y0 y1; clear h1 h2; have y0 : w1.cell? ad = some (.int .i64 x.f0) := pw_cell_below HB1.out Z0.out; have y1 : w1.cell? ⟨ad.block, ad.off + 1, none⟩ = some (.int .i64 x.f1) := pw_cell_below HB1.out Z1.out;)
    | (go_at_call 40; (with_reducible refine (ofp_w hk _).mono ?_); rintro e w2 ⟨rfl, h2⟩; have HI2 := Aside0.mk (build_below HI1.out h2); have HB2 := Aside0.mk (below_next HB1.out h2); clear HI1 HB1 y0 y1; clear h2; have y0 : w2.cell? ad = some (.int .i64 x.f0) := pw_cell_below HB2.out Z0.out; have y1 : w2.cell? ⟨ad.block, ad.off + 1, none⟩ = some (.int .i64 x.f1) := pw_cell_below HB2.out Z1.out;)
    | (go_at_call 63; (with_reducible refine (leb_c _ _).mono ?_); rintro e w3 ⟨rfl, h2⟩; have HI3 := Aside0.mk (build_below HI2.out h2); have HB3 := Aside0.mk (below_next HB2.out h2); clear HI2 HB2 y0 y1; clear h2; have y0 : w3.cell? ad = some (.int .i64 x.f0) := pw_cell_below HB3.out Z0.out; have y1 : w3.cell? ⟨ad.block, ad.off + 1, none⟩ = some (.int .i64 x.f1) := pw_cell_below HB3.out Z1.out;)
    | (go_at_call 62; (with_reducible refine (ws0_c (acc := (acc ++ [x.f0 % 256])) (uB x.f1) (uB_rng x.f1) HI3.out HB3.out (by have := HL.out; simp only [List.length_append, List.length_cons, List.length_nil, List.length_singleton] at this ⊢; omega)).mono ?_); rintro e w4 ⟨⟨v4, rfl⟩, h1, h2⟩; have HI4 := Aside0.mk h1; have HB4 := Aside0.mk h2; clear HI3 HB3 y0 y1; clear h1 h2; have y0 : w4.cell? ad = some (.int .i64 x.f0) := pw_cell_below HB4.out Z0.out; have y1 : w4.cell? ⟨ad.block, ad.off + 1, none⟩ = some (.int .i64 x.f1) := pw_cell_below HB4.out Z1.out;))
  go_end0
  exact put_done rfl HI4.out HB4.out (by simp)

set_option maxHeartbeats 4000000 in
set_option maxRecDepth 100000 in
theorem putone_8s (hk : ofF x.f0 = 8) (h65 : x.f0 = 65) :
    Calls Try.prog 42 #[.pointer (some ⟨b, 0, none⟩), .pointer (some ad)] W (PutPost w0 b (acc ++ oneL x)) := by
  have e1 : oneL x = x.f0 % 256 :: sB (signF x.f3) := by
    unfold oneL behind
    rw [hk]
    simp [h65]
  rw [e1] at hlen ⊢
  have d65 : (x.f0 == 65) = true := beq_iff_eq.2 h65
  have SR := Aside0.mk (show -9223372036854775808 ≤ signF x.f3 ∧ signF x.f3 < 9223372036854775808 by unfold signF wrap64; omega)
  have KK := Aside0.mk h65
  clear h65
  have y0 : W.cell? ad = some (.int .i64 x.f0) := pw_cell_below hB z0
  have y3 : W.cell? ⟨ad.block, ad.off + 3, none⟩ = some (.int .i64 x.f3) := pw_cell_below hB z3
  have HI0 := Aside0.mk hI
  have HB0 := Aside0.mk hB
  have HL := Aside0.mk hlen
  have WF := Aside0.mk wf
  have WF6 := Aside0.mk wf6
  have WF7 := Aside0.mk wf7
  have C5' := Aside0.mk C5
  have C6' := Aside0.mk C6
  have C7' := Aside0.mk C7
  have L5 := Aside0.mk l5
  have L6 := Aside0.mk l6
  have L7 := Aside0.mk l7
  have SZ6 := Aside0.mk s6
  have SZ7 := Aside0.mk s7
  have Z0 := Aside0.mk z0
  have Z1 := Aside0.mk z1
  have Z2 := Aside0.mk z2
  have Z3 := Aside0.mk z3
  have Z4 := Aside0.mk z4
  have Z5 := Aside0.mk z5
  have Z6 := Aside0.mk z6
  have Z7 := Aside0.mk z7
  clear hI hB hlen wf wf6 wf7 C5 C6 C7 l5 l6 l7 s6 s7 e1 z0 z1 z2 z3 z4 z5 z6 z7
  go_enter Try.func42, Try.ntmps42
  go_wp2_with (first
    | (go_at_call 29; (with_reducible refine (wbn_c (acc := acc) (x.f0 % 256) HI0.out HB0.out (by have := HL.out; simp only [List.length_append, List.length_cons, List.length_nil, List.length_singleton] at this ⊢; omega)).mono ?_); rintro e w1 ⟨rfl, h1, h2⟩; have HI1 := Aside0.mk h1; have HB1 := Aside0.mk h2; clear HI0 HB0 y0 y3; clear h1 h2; have y0 : w1.cell? ad = some (.int .i64 x.f0) := pw_cell_below HB1.out Z0.out; have y3 : w1.cell? ⟨ad.block, ad.off + 3, none⟩ = some (.int .i64 x.f3) := pw_cell_below HB1.out Z3.out;)
    | (go_at_call 40; (with_reducible refine (ofp_w hk _).mono ?_); rintro e w2 ⟨rfl, h2⟩; have HI2 := Aside0.mk (build_below HI1.out h2); have HB2 := Aside0.mk (below_next HB1.out h2); clear HI1 HB1 y0 y3; clear h2; have y0 : w2.cell? ad = some (.int .i64 x.f0) := pw_cell_below HB2.out Z0.out; have y3 : w2.cell? ⟨ad.block, ad.off + 3, none⟩ = some (.int .i64 x.f3) := pw_cell_below HB2.out Z3.out;)
    | (go_at_call 64; (with_reducible refine (sign_c _ _).mono ?_); rintro e w3 ⟨rfl, h2⟩; have HI3 := Aside0.mk (build_below HI2.out h2); have HB3 := Aside0.mk (below_next HB2.out h2); clear HI2 HB2 y0 y3; clear h2; have y0 : w3.cell? ad = some (.int .i64 x.f0) := pw_cell_below HB3.out Z0.out; have y3 : w3.cell? ⟨ad.block, ad.off + 3, none⟩ = some (.int .i64 x.f3) := pw_cell_below HB3.out Z3.out;)
    | (go_at_call 65; (with_reducible refine (lebs_c SR.out.1 SR.out.2 _).mono ?_); rintro e w4 ⟨rfl, h2⟩; have HI4 := Aside0.mk (build_below HI3.out h2); have HB4 := Aside0.mk (below_next HB3.out h2); clear HI3 HB3 y0 y3; clear h2; have y0 : w4.cell? ad = some (.int .i64 x.f0) := pw_cell_below HB4.out Z0.out; have y3 : w4.cell? ⟨ad.block, ad.off + 3, none⟩ = some (.int .i64 x.f3) := pw_cell_below HB4.out Z3.out;)
    | (go_at_call 62; (with_reducible refine (wsn_c (acc := (acc ++ [x.f0 % 256])) (sB (signF x.f3)) (sB_rng _ SR.out.1 SR.out.2) HI4.out HB4.out (by have := HL.out; simp only [List.length_append, List.length_cons, List.length_nil, List.length_singleton] at this ⊢; omega)).mono ?_); rintro e w5 ⟨⟨v5, rfl⟩, h1, h2⟩; have HI5 := Aside0.mk h1; have HB5 := Aside0.mk h2; clear HI4 HB4 y0 y3; clear h1 h2; have y0 : w5.cell? ad = some (.int .i64 x.f0) := pw_cell_below HB5.out Z0.out; have y3 : w5.cell? ⟨ad.block, ad.off + 3, none⟩ = some (.int .i64 x.f3) := pw_cell_below HB5.out Z3.out;))
  go_end0
  exact put_done rfl HI5.out HB5.out (by simp)

set_option maxHeartbeats 4000000 in
set_option maxRecDepth 100000 in
theorem putone_8 (hk : ofF x.f0 = 8) (h65 : ¬ x.f0 = 65) :
    Calls Try.prog 42 #[.pointer (some ⟨b, 0, none⟩), .pointer (some ad)] W (PutPost w0 b (acc ++ oneL x)) := by
  have e1 : oneL x = x.f0 % 256 :: sB x.f3 := by
    unfold oneL behind
    rw [hk]
    simp [h65]
  rw [e1] at hlen ⊢
  have d65 : (x.f0 == 65) = false := beq_eq_false_iff_ne.2 h65
  have KK := Aside0.mk h65
  clear h65
  have y0 : W.cell? ad = some (.int .i64 x.f0) := pw_cell_below hB z0
  have y3 : W.cell? ⟨ad.block, ad.off + 3, none⟩ = some (.int .i64 x.f3) := pw_cell_below hB z3
  have HI0 := Aside0.mk hI
  have HB0 := Aside0.mk hB
  have HL := Aside0.mk hlen
  have WF := Aside0.mk wf
  have WF6 := Aside0.mk wf6
  have WF7 := Aside0.mk wf7
  have C5' := Aside0.mk C5
  have C6' := Aside0.mk C6
  have C7' := Aside0.mk C7
  have L5 := Aside0.mk l5
  have L6 := Aside0.mk l6
  have L7 := Aside0.mk l7
  have SZ6 := Aside0.mk s6
  have SZ7 := Aside0.mk s7
  have Z0 := Aside0.mk z0
  have Z1 := Aside0.mk z1
  have Z2 := Aside0.mk z2
  have Z3 := Aside0.mk z3
  have Z4 := Aside0.mk z4
  have Z5 := Aside0.mk z5
  have Z6 := Aside0.mk z6
  have Z7 := Aside0.mk z7
  clear hI hB hlen wf wf6 wf7 C5 C6 C7 l5 l6 l7 s6 s7 e1 z0 z1 z2 z3 z4 z5 z6 z7
  go_enter Try.func42, Try.ntmps42
  go_wp2_with (first
    | (go_at_call 29; (with_reducible refine (wbn_c (acc := acc) (x.f0 % 256) HI0.out HB0.out (by have := HL.out; simp only [List.length_append, List.length_cons, List.length_nil, List.length_singleton] at this ⊢; omega)).mono ?_); rintro e w1 ⟨rfl, h1, h2⟩; have HI1 := Aside0.mk h1; have HB1 := Aside0.mk h2; clear HI0 HB0 y0 y3; clear h1 h2; have y0 : w1.cell? ad = some (.int .i64 x.f0) := pw_cell_below HB1.out Z0.out; have y3 : w1.cell? ⟨ad.block, ad.off + 3, none⟩ = some (.int .i64 x.f3) := pw_cell_below HB1.out Z3.out;)
    | (go_at_call 40; (with_reducible refine (ofp_w hk _).mono ?_); rintro e w2 ⟨rfl, h2⟩; have HI2 := Aside0.mk (build_below HI1.out h2); have HB2 := Aside0.mk (below_next HB1.out h2); clear HI1 HB1 y0 y3; clear h2; have y0 : w2.cell? ad = some (.int .i64 x.f0) := pw_cell_below HB2.out Z0.out; have y3 : w2.cell? ⟨ad.block, ad.off + 3, none⟩ = some (.int .i64 x.f3) := pw_cell_below HB2.out Z3.out;)
    | (go_at_call 65; (with_reducible refine (lebs_c WF.out.1 WF.out.2 _).mono ?_); rintro e w3 ⟨rfl, h2⟩; have HI3 := Aside0.mk (build_below HI2.out h2); have HB3 := Aside0.mk (below_next HB2.out h2); clear HI2 HB2 y0 y3; clear h2; have y0 : w3.cell? ad = some (.int .i64 x.f0) := pw_cell_below HB3.out Z0.out; have y3 : w3.cell? ⟨ad.block, ad.off + 3, none⟩ = some (.int .i64 x.f3) := pw_cell_below HB3.out Z3.out;)
    | (go_at_call 62; (with_reducible refine (wsn_c (acc := (acc ++ [x.f0 % 256])) (sB x.f3) (sB_rng _ WF.out.1 WF.out.2) HI3.out HB3.out (by have := HL.out; simp only [List.length_append, List.length_cons, List.length_nil, List.length_singleton] at this ⊢; omega)).mono ?_); rintro e w4 ⟨⟨v4, rfl⟩, h1, h2⟩; have HI4 := Aside0.mk h1; have HB4 := Aside0.mk h2; clear HI3 HB3 y0 y3; clear h1 h2; have y0 : w4.cell? ad = some (.int .i64 x.f0) := pw_cell_below HB4.out Z0.out; have y3 : w4.cell? ⟨ad.block, ad.off + 3, none⟩ = some (.int .i64 x.f3) := pw_cell_below HB4.out Z3.out;))
  go_end0
  exact put_done rfl HI4.out HB4.out (by simp)

set_option maxHeartbeats 4000000 in
set_option maxRecDepth 100000 in
theorem putone_9w (hk : ofF x.f0 = 9) (hw : wideB x.f0 = true) :
    Calls Try.prog 42 #[.pointer (some ⟨b, 0, none⟩), .pointer (some ad)] W (PutPost w0 b (acc ++ oneL x)) := by
  have e1 : oneL x = x.f0 % 256 :: lowB x.f3 8 0 := by
    unfold oneL behind
    rw [hk]
    simp [hw]
  rw [e1] at hlen ⊢
  have y0 : W.cell? ad = some (.int .i64 x.f0) := pw_cell_below hB z0
  have y3 : W.cell? ⟨ad.block, ad.off + 3, none⟩ = some (.int .i64 x.f3) := pw_cell_below hB z3
  have HI0 := Aside0.mk hI
  have HB0 := Aside0.mk hB
  have HL := Aside0.mk hlen
  have WF := Aside0.mk wf
  have WF6 := Aside0.mk wf6
  have WF7 := Aside0.mk wf7
  have C5' := Aside0.mk C5
  have C6' := Aside0.mk C6
  have C7' := Aside0.mk C7
  have L5 := Aside0.mk l5
  have L6 := Aside0.mk l6
  have L7 := Aside0.mk l7
  have SZ6 := Aside0.mk s6
  have SZ7 := Aside0.mk s7
  have Z0 := Aside0.mk z0
  have Z1 := Aside0.mk z1
  have Z2 := Aside0.mk z2
  have Z3 := Aside0.mk z3
  have Z4 := Aside0.mk z4
  have Z5 := Aside0.mk z5
  have Z6 := Aside0.mk z6
  have Z7 := Aside0.mk z7
  clear hI hB hlen wf wf6 wf7 C5 C6 C7 l5 l6 l7 s6 s7 e1 z0 z1 z2 z3 z4 z5 z6 z7
  go_enter Try.func42, Try.ntmps42
  go_wp2_with (first
    | (go_at_call 29; (with_reducible refine (wbn_c (acc := acc) (x.f0 % 256) HI0.out HB0.out (by have := HL.out; simp only [List.length_append, List.length_cons, List.length_nil, List.length_singleton] at this ⊢; omega)).mono ?_); rintro e w1 ⟨rfl, h1, h2⟩; have HI1 := Aside0.mk h1; have HB1 := Aside0.mk h2; clear HI0 HB0 y0 y3; clear h1 h2; have y0 : w1.cell? ad = some (.int .i64 x.f0) := pw_cell_below HB1.out Z0.out; have y3 : w1.cell? ⟨ad.block, ad.off + 3, none⟩ = some (.int .i64 x.f3) := pw_cell_below HB1.out Z3.out;)
    | (go_at_call 40; (with_reducible refine (ofp_w hk _).mono ?_); rintro e w2 ⟨rfl, h2⟩; have HI2 := Aside0.mk (build_below HI1.out h2); have HB2 := Aside0.mk (below_next HB1.out h2); clear HI1 HB1 y0 y3; clear h2; have y0 : w2.cell? ad = some (.int .i64 x.f0) := pw_cell_below HB2.out Z0.out; have y3 : w2.cell? ⟨ad.block, ad.off + 3, none⟩ = some (.int .i64 x.f3) := pw_cell_below HB2.out Z3.out;)
    | (go_at_call 58; (with_reducible refine (widep_w hw _).mono ?_); rintro e w3 ⟨rfl, h2⟩; have HI3 := Aside0.mk (build_below HI2.out h2); have HB3 := Aside0.mk (below_next HB2.out h2); clear HI2 HB2 y0 y3; clear h2; have y0 : w3.cell? ad = some (.int .i64 x.f0) := pw_cell_below HB3.out Z0.out; have y3 : w3.cell? ⟨ad.block, ad.off + 3, none⟩ = some (.int .i64 x.f3) := pw_cell_below HB3.out Z3.out;)
    | (go_at_call 66; (with_reducible refine (lowp_8 (acc := (acc ++ [x.f0 % 256])) x.f3 HI3.out HB3.out (by have := HL.out; simp only [List.length_append, List.length_cons, List.length_nil, List.length_singleton, lowB_len] at this ⊢; omega)).mono ?_); rintro e w4 ⟨rfl, h1, h2⟩; have HI4 := Aside0.mk h1; have HB4 := Aside0.mk h2; clear HI3 HB3 y0 y3; clear h1 h2; have y0 : w4.cell? ad = some (.int .i64 x.f0) := pw_cell_below HB4.out Z0.out; have y3 : w4.cell? ⟨ad.block, ad.off + 3, none⟩ = some (.int .i64 x.f3) := pw_cell_below HB4.out Z3.out;))
  go_end0
  exact put_done rfl HI4.out HB4.out (by simp)

set_option maxHeartbeats 4000000 in
set_option maxRecDepth 100000 in
theorem putone_9 (hk : ofF x.f0 = 9) (hw : wideB x.f0 = false) :
    Calls Try.prog 42 #[.pointer (some ⟨b, 0, none⟩), .pointer (some ad)] W (PutPost w0 b (acc ++ oneL x)) := by
  have e1 : oneL x = x.f0 % 256 :: lowB x.f3 4 0 := by
    unfold oneL behind
    rw [hk]
    simp [hw]
  rw [e1] at hlen ⊢
  have y0 : W.cell? ad = some (.int .i64 x.f0) := pw_cell_below hB z0
  have y3 : W.cell? ⟨ad.block, ad.off + 3, none⟩ = some (.int .i64 x.f3) := pw_cell_below hB z3
  have HI0 := Aside0.mk hI
  have HB0 := Aside0.mk hB
  have HL := Aside0.mk hlen
  have WF := Aside0.mk wf
  have WF6 := Aside0.mk wf6
  have WF7 := Aside0.mk wf7
  have C5' := Aside0.mk C5
  have C6' := Aside0.mk C6
  have C7' := Aside0.mk C7
  have L5 := Aside0.mk l5
  have L6 := Aside0.mk l6
  have L7 := Aside0.mk l7
  have SZ6 := Aside0.mk s6
  have SZ7 := Aside0.mk s7
  have Z0 := Aside0.mk z0
  have Z1 := Aside0.mk z1
  have Z2 := Aside0.mk z2
  have Z3 := Aside0.mk z3
  have Z4 := Aside0.mk z4
  have Z5 := Aside0.mk z5
  have Z6 := Aside0.mk z6
  have Z7 := Aside0.mk z7
  clear hI hB hlen wf wf6 wf7 C5 C6 C7 l5 l6 l7 s6 s7 e1 z0 z1 z2 z3 z4 z5 z6 z7
  go_enter Try.func42, Try.ntmps42
  go_wp2_with (first
    | (go_at_call 29; (with_reducible refine (wbn_c (acc := acc) (x.f0 % 256) HI0.out HB0.out (by have := HL.out; simp only [List.length_append, List.length_cons, List.length_nil, List.length_singleton] at this ⊢; omega)).mono ?_); rintro e w1 ⟨rfl, h1, h2⟩; have HI1 := Aside0.mk h1; have HB1 := Aside0.mk h2; clear HI0 HB0 y0 y3; clear h1 h2; have y0 : w1.cell? ad = some (.int .i64 x.f0) := pw_cell_below HB1.out Z0.out; have y3 : w1.cell? ⟨ad.block, ad.off + 3, none⟩ = some (.int .i64 x.f3) := pw_cell_below HB1.out Z3.out;)
    | (go_at_call 40; (with_reducible refine (ofp_w hk _).mono ?_); rintro e w2 ⟨rfl, h2⟩; have HI2 := Aside0.mk (build_below HI1.out h2); have HB2 := Aside0.mk (below_next HB1.out h2); clear HI1 HB1 y0 y3; clear h2; have y0 : w2.cell? ad = some (.int .i64 x.f0) := pw_cell_below HB2.out Z0.out; have y3 : w2.cell? ⟨ad.block, ad.off + 3, none⟩ = some (.int .i64 x.f3) := pw_cell_below HB2.out Z3.out;)
    | (go_at_call 58; (with_reducible refine (widep_w hw _).mono ?_); rintro e w3 ⟨rfl, h2⟩; have HI3 := Aside0.mk (build_below HI2.out h2); have HB3 := Aside0.mk (below_next HB2.out h2); clear HI2 HB2 y0 y3; clear h2; have y0 : w3.cell? ad = some (.int .i64 x.f0) := pw_cell_below HB3.out Z0.out; have y3 : w3.cell? ⟨ad.block, ad.off + 3, none⟩ = some (.int .i64 x.f3) := pw_cell_below HB3.out Z3.out;)
    | (go_at_call 66; (with_reducible refine (lowp_4 (acc := (acc ++ [x.f0 % 256])) x.f3 HI3.out HB3.out (by have := HL.out; simp only [List.length_append, List.length_cons, List.length_nil, List.length_singleton, lowB_len] at this ⊢; omega)).mono ?_); rintro e w4 ⟨rfl, h1, h2⟩; have HI4 := Aside0.mk h1; have HB4 := Aside0.mk h2; clear HI3 HB3 y0 y3; clear h1 h2; have y0 : w4.cell? ad = some (.int .i64 x.f0) := pw_cell_below HB4.out Z0.out; have y3 : w4.cell? ⟨ad.block, ad.off + 3, none⟩ = some (.int .i64 x.f3) := pw_cell_below HB4.out Z3.out;))
  go_end0
  exact put_done rfl HI4.out HB4.out (by simp)

set_option maxHeartbeats 4000000 in
set_option maxRecDepth 100000 in
theorem putone_6 (hk : ofF x.f0 = 6) :
    Calls Try.prog 42 #[.pointer (some ⟨b, 0, none⟩), .pointer (some ad)] W (PutPost w0 b (acc ++ oneL x)) := by
  have e1 : oneL x = x.f0 % 256 :: (uB x.f1 ++ uB x.f2) := by
    unfold oneL behind
    rw [hk]
    simp
  rw [e1] at hlen ⊢
  have NU : ¬ 9223372036854775807 < (strOfNums (uB x.f1)).size + (strOfNums (uB x.f2)).size := by rw [LebBacks.size_str, LebBacks.size_str]; have := (uB_spec x.f1).2; have := (uB_spec x.f2).2; omega
  have y0 : W.cell? ad = some (.int .i64 x.f0) := pw_cell_below hB z0
  have y1 : W.cell? ⟨ad.block, ad.off + 1, none⟩ = some (.int .i64 x.f1) := pw_cell_below hB z1
  have y2 : W.cell? ⟨ad.block, ad.off + 2, none⟩ = some (.int .i64 x.f2) := pw_cell_below hB z2
  have HI0 := Aside0.mk hI
  have HB0 := Aside0.mk hB
  have HL := Aside0.mk hlen
  have WF := Aside0.mk wf
  have WF6 := Aside0.mk wf6
  have WF7 := Aside0.mk wf7
  have C5' := Aside0.mk C5
  have C6' := Aside0.mk C6
  have C7' := Aside0.mk C7
  have L5 := Aside0.mk l5
  have L6 := Aside0.mk l6
  have L7 := Aside0.mk l7
  have SZ6 := Aside0.mk s6
  have SZ7 := Aside0.mk s7
  have Z0 := Aside0.mk z0
  have Z1 := Aside0.mk z1
  have Z2 := Aside0.mk z2
  have Z3 := Aside0.mk z3
  have Z4 := Aside0.mk z4
  have Z5 := Aside0.mk z5
  have Z6 := Aside0.mk z6
  have Z7 := Aside0.mk z7
  clear hI hB hlen wf wf6 wf7 C5 C6 C7 l5 l6 l7 s6 s7 e1 z0 z1 z2 z3 z4 z5 z6 z7
  go_enter Try.func42, Try.ntmps42
  go_wp2_with (first
    | (go_at_call 29; (with_reducible refine (wbn_c (acc := acc) (x.f0 % 256) HI0.out HB0.out (by have := HL.out; simp only [List.length_append, List.length_cons, List.length_nil, List.length_singleton] at this ⊢; omega)).mono ?_); rintro e w1 ⟨rfl, h1, h2⟩; have HI1 := Aside0.mk h1; have HB1 := Aside0.mk h2; clear HI0 HB0 y0 y1 y2; clear h1 h2; have y0 : w1.cell? ad = some (.int .i64 x.f0) := pw_cell_below HB1.out Z0.out; have y1 : w1.cell? ⟨ad.block, ad.off + 1, none⟩ = some (.int .i64 x.f1) := pw_cell_below HB1.out Z1.out; have y2 : w1.cell? ⟨ad.block, ad.off + 2, none⟩ = some (.int .i64 x.f2) := pw_cell_below HB1.out Z2.out;)
    | (go_at_call 40; (with_reducible refine (ofp_w hk _).mono ?_); rintro e w2 ⟨rfl, h2⟩; have HI2 := Aside0.mk (build_below HI1.out h2); have HB2 := Aside0.mk (below_next HB1.out h2); clear HI1 HB1 y0 y1 y2; clear h2; have y0 : w2.cell? ad = some (.int .i64 x.f0) := pw_cell_below HB2.out Z0.out; have y1 : w2.cell? ⟨ad.block, ad.off + 1, none⟩ = some (.int .i64 x.f1) := pw_cell_below HB2.out Z1.out; have y2 : w2.cell? ⟨ad.block, ad.off + 2, none⟩ = some (.int .i64 x.f2) := pw_cell_below HB2.out Z2.out;))
  refine start_ (n := 13) (S := fun w' => Lib.IsBuilder 61 5 w0.heap.size b (nums .u8 (acc ++ [x.f0 % 256])) w' ∧ Below w0.heap.size w0 w' ∧ w'.cell? ⟨ad.block, ad.off + 1, none⟩ = some (.int .i64 x.f1) ∧ w'.cell? ⟨ad.block, ad.off + 2, none⟩ = some (.int .i64 x.f2)) (ds := [12]) #[false, false, false, false, false, false, false, false, false, false, false, false, false] (by kernel_rfl) rfl rfl ⟨build_below HI2.out (below_drew (Below.refl _ _)), below_drew HB2.out, y1, y2⟩ (fun hHeld => ?_)
  refine pure_ (i := 0) (N := some 97) (v := ?_) (a' := ?_) #[true, false, false, false, false, false, false, false, false, false, false, false, false] rfl rfl (by kernel_rfl) (fun _ _ _ h => h) (Or.inl ⟨by rfl, ?_⟩) ?_ ?_
  rotate_left
  · intro w'
    go_simp
    with_reducible rfl
  rotate_left
  · simp only [Act.put, List.setIfInBounds_toArray, List.set_cons_zero, List.set_cons_succ, i64_w, i32_w]
    rfl
  refine pure_ (i := 1) (N := some 98) (v := ?_) (a' := ?_) #[true, true, false, false, false, false, false, false, false, false, false, false, false] rfl rfl (by kernel_rfl) (fun _ _ _ h => h) (Or.inl ⟨by rfl, ?_⟩) ?_ ?_
  rotate_left
  · intro w'
    go_simp
    with_reducible rfl
  rotate_left
  · simp only [Act.put, List.setIfInBounds_toArray, List.set_cons_zero, List.set_cons_succ, i64_w, i32_w]
    rfl
  refine pure_ (i := 2) (N := some 99) (v := ?_) (a' := ?_) #[true, true, true, false, false, false, false, false, false, false, false, false, false] rfl rfl (by kernel_rfl) (fun _ _ _ h => h) (Or.inl ⟨by rfl, ?_⟩) ?_ ?_
  rotate_left
  · intro w'
    go_simp
    with_reducible rfl
  rotate_left
  · simp only [Act.put, List.setIfInBounds_toArray, List.set_cons_zero, List.set_cons_succ, i64_w, i32_w]
    rfl
  refine pure_ (i := 3) (N := some 100) (v := ?_) (a' := ?_) #[true, true, true, true, false, false, false, false, false, false, false, false, false] rfl rfl (by kernel_rfl) (fun _ _ _ h => h) (Or.inl ⟨by rfl, ?_⟩) ?_ ?_
  rotate_left
  · intro w'
    go_simp
    with_reducible rfl
  rotate_left
  · simp only [Act.put, List.setIfInBounds_toArray, List.set_cons_zero, List.set_cons_succ, i64_w, i32_w]
    rfl
  refine pure_ (i := 6) (N := some 103) (v := ?_) (a' := ?_) #[true, true, true, true, false, false, true, false, false, false, false, false, false] rfl rfl (by kernel_rfl) (fun _ _ _ h => h) (Or.inl ⟨by rfl, ?_⟩) ?_ ?_
  rotate_left
  · intro w'
    go_simp
    with_reducible rfl
  rotate_left
  · simp only [Act.put, List.setIfInBounds_toArray, List.set_cons_zero, List.set_cons_succ, i64_w, i32_w]
    rfl
  refine pure_ (i := 7) (N := some 104) (v := ?_) (a' := ?_) #[true, true, true, true, false, false, true, true, false, false, false, false, false] rfl rfl (by kernel_rfl) (fun _ _ _ h => h) (Or.inl ⟨by rfl, ?_⟩) ?_ ?_
  rotate_left
  · intro w'
    go_simp
    with_reducible rfl
  rotate_left
  · simp only [Act.put, List.setIfInBounds_toArray, List.set_cons_zero, List.set_cons_succ, i64_w, i32_w]
    rfl
  refine pure_ (i := 8) (N := some 105) (v := ?_) (a' := ?_) #[true, true, true, true, false, false, true, true, true, false, false, false, false] rfl rfl (by kernel_rfl) (fun _ _ _ h => h) (Or.inl ⟨by rfl, ?_⟩) ?_ ?_
  rotate_left
  · intro w'
    go_simp
    with_reducible rfl
  rotate_left
  · simp only [Act.put, List.setIfInBounds_toArray, List.set_cons_zero, List.set_cons_succ, i64_w, i32_w]
    rfl
  refine take_ (i := 4) (N := some 101) (v := ?_) (a' := ?_) #[true, true, true, true, true, false, true, true, true, false, false, false, false] rfl rfl (by kernel_rfl) (fun _ _ _ h => h) (Or.inl ⟨by rfl, ?_⟩) hHeld ?_ ?_
  rotate_left
  · rintro w' ⟨s0, s1, s2, s3⟩
    go_simp
    with_reducible rfl
  rotate_left
  · simp only [Act.put, List.setIfInBounds_toArray, List.set_cons_zero, List.set_cons_succ, i64_w, i32_w]
    rfl
  refine take_ (i := 9) (N := some 106) (v := ?_) (a' := ?_) #[true, true, true, true, true, false, true, true, true, true, false, false, false] rfl rfl (by kernel_rfl) (fun _ _ _ h => h) (Or.inl ⟨by rfl, ?_⟩) hHeld ?_ ?_
  rotate_left
  · rintro w' ⟨s0, s1, s2, s3⟩
    go_simp
    with_reducible rfl
  rotate_left
  · simp only [Act.put, List.setIfInBounds_toArray, List.set_cons_zero, List.set_cons_succ, i64_w, i32_w]
    rfl
  refine one_ (i := 5) (N := some 102) #[true, true, true, true, true, true, true, true, true, true, false, false, false] rfl rfl (by kernel_rfl) (by decide) (fun K hK => ?_)
  refine goes_ Try.func63 (by kernel_rfl) rfl #[.int .i64 x.f1] (by rfl) rfl rfl (by simp only [List.map_toArray, List.map_cons, List.map_nil]; rfl) ?_
  with_reducible refine (leb_c _ _).mono ?_
  rintro e w3 ⟨rfl, h2⟩
  refine ⟨_, rfl, ?_⟩
  obtain ⟨s0, s1, s2, s3⟩ := hHeld
  have HI3 := Aside0.mk (build_below s0 h2)
  have HB3 := Aside0.mk (below_next s1 h2)
  clear h2 s0 s1 s2 s3
  refine hK.out _ _ ⟨HI3.out, HB3.out, pw_cell_below HB3.out Z1.out, pw_cell_below HB3.out Z2.out⟩ (fun hHeld => ?_)
  clear hK K
  refine norm_ (a' := ?_) ?_ ?_
  rotate_left
  · show Act.put _ (some 102) _ = _
    simp only [Act.put, List.setIfInBounds_toArray, List.set_cons_zero, List.set_cons_succ, i64_w, i32_w]
    rfl
  refine one_ (i := 10) (N := some 107) #[true, true, true, true, true, true, true, true, true, true, true, false, false] rfl rfl (by kernel_rfl) (by decide) (fun K hK => ?_)
  refine goes_ Try.func63 (by kernel_rfl) rfl #[.int .i64 x.f2] (by rfl) rfl rfl (by simp only [List.map_toArray, List.map_cons, List.map_nil]; rfl) ?_
  with_reducible refine (leb_c _ _).mono ?_
  rintro e w4 ⟨rfl, h2⟩
  refine ⟨_, rfl, ?_⟩
  have HI4 := Aside0.mk (build_below HI3.out h2)
  have HB4 := Aside0.mk (below_next HB3.out h2)
  clear h2
  refine hK.out _ _ ⟨HI4.out, HB4.out, pw_cell_below HB4.out Z1.out, pw_cell_below HB4.out Z2.out⟩ (fun hHeld => ?_)
  clear hK K
  refine norm_ (a' := ?_) ?_ ?_
  rotate_left
  · show Act.put _ (some 107) _ = _
    simp only [Act.put, List.setIfInBounds_toArray, List.set_cons_zero, List.set_cons_succ, i64_w, i32_w]
    rfl
  refine pure_ (i := 11) (N := some 108) (v := ?_) (a' := ?_) #[true, true, true, true, true, true, true, true, true, true, true, true, false] rfl rfl (by kernel_rfl) (fun _ _ _ h => h) (Or.inl ⟨by rfl, ?_⟩) ?_ ?_
  rotate_left
  · intro w'
    go_simp
    with_reducible rfl
  rotate_left
  · simp only [Act.put, List.setIfInBounds_toArray, List.set_cons_zero, List.set_cons_succ, i64_w, i32_w]
    rfl
  refine last_ (i := 12) (N := some 109) #[true, true, true, true, true, true, true, true, true, true, true, true, true] rfl rfl (by kernel_rfl) (by decide) (fun K hK => ?_)
  refine goes_ Try.func62 (by kernel_rfl) rfl #[.pointer (some ⟨b, 0, none⟩), .string (strOfNums (uB x.f1) ++ strOfNums (uB x.f2))] (by rfl) rfl rfl (by simp only [List.map_toArray, List.map_cons, List.map_nil]; rfl) ?_
  with_reducible refine (ws2_c (acc := acc ++ [x.f0 % 256]) (uB x.f1) (uB x.f2) (uB_rng _) (uB_rng _) HI4.out HB4.out (by have := HL.out; simp only [List.length_append, List.length_cons, List.length_nil, List.length_singleton] at this ⊢; omega)).mono ?_
  rintro e w5 ⟨⟨v5, rfl⟩, h1, h2⟩
  refine ⟨_, rfl, ?_⟩
  have HI5 := Aside0.mk h1
  have HB5 := Aside0.mk h2
  clear h1 h2
  refine hK.out _ _ ?_
  clear hK K
  refine norm_ (a' := ?_) ?_ ?_
  rotate_left
  · show Act.put _ (some 109) _ = _
    simp only [Act.put, List.setIfInBounds_toArray, List.set_cons_zero, List.set_cons_succ, i64_w, i32_w]
    rfl
  refine done_ (by kernel_rfl) ?_
  go_wp2
  go_end0
  exact put_done rfl HI5.out HB5.out (by simp)

set_option maxHeartbeats 4000000 in
set_option maxRecDepth 100000 in
theorem putone_4 (hk : ofF x.f0 = 4) :
    Calls Try.prog 42 #[.pointer (some ⟨b, 0, none⟩), .pointer (some ad)] W (PutPost w0 b (acc ++ oneL x)) := by
  have e1 : oneL x = x.f0 % 256 :: (uB ((x.f5.length : Int) - 1) ++ x.f5.flatMap uB) := by
    unfold oneL behind
    rw [hk]
    simp
  rw [e1] at hlen ⊢
  have hmax : x.f5.length ≤ 9223372036854775807 := by have := Kd.C_max C5; unfold maxLen at this; omega
  have hm0 : (0 : Int) ≤ (x.f5.length : Int) := by omega
  have y0 : W.cell? ad = some (.int .i64 x.f0) := pw_cell_below hB z0
  have y5 : W.cell? ⟨ad.block, ad.off + 5, none⟩ = some (.slice A5 x.f5.length c5) := pw_cell_below hB z5
  have HI0 := Aside0.mk hI
  have HB0 := Aside0.mk hB
  have HL := Aside0.mk hlen
  have WF := Aside0.mk wf
  have WF6 := Aside0.mk wf6
  have WF7 := Aside0.mk wf7
  have C5' := Aside0.mk C5
  have C6' := Aside0.mk C6
  have C7' := Aside0.mk C7
  have L5 := Aside0.mk l5
  have L6 := Aside0.mk l6
  have L7 := Aside0.mk l7
  have SZ6 := Aside0.mk s6
  have SZ7 := Aside0.mk s7
  have Z0 := Aside0.mk z0
  have Z1 := Aside0.mk z1
  have Z2 := Aside0.mk z2
  have Z3 := Aside0.mk z3
  have Z4 := Aside0.mk z4
  have Z5 := Aside0.mk z5
  have Z6 := Aside0.mk z6
  have Z7 := Aside0.mk z7
  clear hI hB hlen wf wf6 wf7 C5 C6 C7 l5 l6 l7 s6 s7 e1 z0 z1 z2 z3 z4 z5 z6 z7
  go_enter Try.func42, Try.ntmps42
  go_wp2_with (first
    | (go_at_call 29; (with_reducible refine (wbn_c (acc := acc) (x.f0 % 256) HI0.out HB0.out (by have := HL.out; simp only [List.length_append, List.length_cons, List.length_nil, List.length_singleton] at this ⊢; omega)).mono ?_); rintro e w1 ⟨rfl, h1, h2⟩; have HI1 := Aside0.mk h1; have HB1 := Aside0.mk h2; clear HI0 HB0 y0 y5; clear h1 h2; have y0 : w1.cell? ad = some (.int .i64 x.f0) := pw_cell_below HB1.out Z0.out; have y5 : w1.cell? ⟨ad.block, ad.off + 5, none⟩ = some (.slice A5 x.f5.length c5) := pw_cell_below HB1.out Z5.out;)
    | (go_at_call 40; (with_reducible refine (ofp_w hk _).mono ?_); rintro e w2 ⟨rfl, h2⟩; have HI2 := Aside0.mk (build_below HI1.out h2); have HB2 := Aside0.mk (below_next HB1.out h2); clear HI1 HB1 y0 y5; clear h2; have y0 : w2.cell? ad = some (.int .i64 x.f0) := pw_cell_below HB2.out Z0.out; have y5 : w2.cell? ⟨ad.block, ad.off + 5, none⟩ = some (.slice A5 x.f5.length c5) := pw_cell_below HB2.out Z5.out;)
    | (go_at_call 63; (with_reducible refine (leb_c _ _).mono ?_); rintro e w3 ⟨rfl, h2⟩; have HI3 := Aside0.mk (build_below HI2.out h2); have HB3 := Aside0.mk (below_next HB2.out h2); clear HI2 HB2 y0 y5; clear h2; have y0 : w3.cell? ad = some (.int .i64 x.f0) := pw_cell_below HB3.out Z0.out; have y5 : w3.cell? ⟨ad.block, ad.off + 5, none⟩ = some (.slice A5 x.f5.length c5) := pw_cell_below HB3.out Z5.out;)
    | (go_at_call 62; (with_reducible refine (wsn_c (acc := (acc ++ [x.f0 % 256])) (uB ((x.f5.length : Int) - 1)) (uB_rng _) HI3.out HB3.out (by have := HL.out; simp only [List.length_append, List.length_cons, List.length_nil, List.length_singleton] at this ⊢; omega)).mono ?_); rintro e w4 ⟨⟨v4, rfl⟩, h1, h2⟩; have HI4 := Aside0.mk h1; have HB4 := Aside0.mk h2; clear HI3 HB3 y0 y5; clear h1 h2; have y0 : w4.cell? ad = some (.int .i64 x.f0) := pw_cell_below HB4.out Z0.out; have y5 : w4.cell? ⟨ad.block, ad.off + 5, none⟩ = some (.slice A5 x.f5.length c5) := pw_cell_below HB4.out Z5.out;))
  go_loopw [76] (fun v76 wr => RelLabP w0 b (acc ++ [x.f0 % 256] ++ uB ((x.f5.length : Int) - 1)) x.f5 v76 wr) (fun v76 _ => x.f5.length - (intOf v76).toNat)
  case atStart => exact ⟨0, Nat.zero_le _, rfl, by simpa using HI4.out, HB4.out⟩
  case round =>
    obtain ⟨i, hi, rfl, hI, hW⟩ := hrel
    have HI := Aside0.mk hI
    have HW := Aside0.mk hW
    clear hI hW y0 y5
    by_cases hlt : i < x.f5.length
    · have dl : decide (i < x.f5.length) = true := decide_eq_true hlt
      have dl2 : decide ((i : Int) < (x.f5.length : Int)) = true := decide_eq_true (by omega)
      have w2 : wrap64 ((i : Int) + 1) = (i : Int) + 1 := by unfold wrap64; omega
      have hi0 : (0 : Int) ≤ (i : Int) := by omega
      obtain ⟨a5, eA, c5e⟩ := Kd.at_int (Kd.C_below C5'.out HW.out) (i : Int) hi0 (by omega)
      subst eA
      have tk : (x.f5.take (i + 1)).flatMap uB = (x.f5.take i).flatMap uB ++ uB (rd x.f5 (i : Int)) := by
        have e : x.f5.take (i + 1) = x.f5.take i ++ [x.f5[i]] := by
          rw [List.take_add_one, List.getElem?_eq_getElem hlt]
          rfl
        unfold rd
        rw [Int.toNat_natCast, List.getD_eq_getElem?_getD, List.getElem?_eq_getElem hlt, e, List.flatMap_append, List.flatMap_cons, List.flatMap_nil, List.append_nil]
        rfl
      have tl : ((x.f5.take i).flatMap uB).length + (uB (rd x.f5 (i : Int))).length ≤ (x.f5.flatMap uB).length := by
        rw [← List.length_append, ← tk]
        conv => rhs; rw [← List.take_append_drop (i + 1) x.f5, List.flatMap_append, List.length_append]
        omega
      have TK := Aside0.mk tk
      have TL := Aside0.mk tl
      clear tk tl
      generalize rd x.f5 (i : Int) = l at *
      simp only [Int.toNat_natCast] at c5e
      go_wp2_with (first
        | (go_at_call 63; (with_reducible refine (leb_c _ _).mono ?_); rintro e w5 ⟨rfl, h2⟩; have HI5 := Aside0.mk (build_below HI.out h2); have HW5 := Aside0.mk (below_next HW.out h2); clear HI HW h2)
        | (go_at_call 62; (with_reducible refine (wsn_c (acc := acc ++ [x.f0 % 256] ++ uB ((x.f5.length : Int) - 1) ++ (x.f5.take i).flatMap uB) (uB l) (uB_rng _) HI5.out HW5.out (by have := HL.out; have := TL.out; simp only [List.length_append, List.length_cons, List.length_nil, List.length_singleton] at *; omega)).mono ?_); rintro e w6 ⟨⟨v6, rfl⟩, h1, h2⟩; have HI6 := Aside0.mk h1; have HW6 := Aside0.mk h2; clear h1 h2))
      exact ⟨⟨i + 1, hlt, by simp, by rw [TK.out, ← List.append_assoc]; exact HI6.out, HW6.out⟩, by simp [intOf]; omega⟩
    · have dl : decide (i < x.f5.length) = false := decide_eq_false hlt
      have dl2 : decide ((i : Int) < (x.f5.length : Int)) = false := decide_eq_false (by omega)
      go_wp2
      go_end0
      refine put_done rfl HI.out HW.out ?_
      rw [List.take_of_length_le (by omega)]
      simp

set_option maxHeartbeats 4000000 in
set_option maxRecDepth 100000 in
theorem putone_2 (hk : ofF x.f0 = 2) (he : x.f7.length = 0) :
    Calls Try.prog 42 #[.pointer (some ⟨b, 0, none⟩), .pointer (some ad)] W (PutPost w0 b (acc ++ oneL x)) := by
  have e1 : oneL x = x.f0 % 256 :: (x.f4 % 256 :: (putL x.f6 ++ [11])) := by
    unfold oneL behind
    rw [hk]
    simp [he]
  rw [e1] at hlen ⊢
  have d7 : decide (0 < x.f7.length) = false := decide_eq_false (by omega)
  have d72 : decide ((x.f7.length : Int) > 0) = false := decide_eq_false (by omega)
  have d73 : decide ((0 : Int) < (x.f7.length : Int)) = false := decide_eq_false (by omega)
  clear he
  have y0 : W.cell? ad = some (.int .i64 x.f0) := pw_cell_below hB z0
  have y4 : W.cell? ⟨ad.block, ad.off + 4, none⟩ = some (.int .i64 x.f4) := pw_cell_below hB z4
  have y6 : W.cell? ⟨ad.block, ad.off + 6, none⟩ = some (.slice A6 x.f6.length c6) := pw_cell_below hB z6
  have y7 : W.cell? ⟨ad.block, ad.off + 7, none⟩ = some (.slice A7 x.f7.length c7) := pw_cell_below hB z7
  have HI0 := Aside0.mk hI
  have HB0 := Aside0.mk hB
  have HL := Aside0.mk hlen
  have WF := Aside0.mk wf
  have WF6 := Aside0.mk wf6
  have WF7 := Aside0.mk wf7
  have C5' := Aside0.mk C5
  have C6' := Aside0.mk C6
  have C7' := Aside0.mk C7
  have L5 := Aside0.mk l5
  have L6 := Aside0.mk l6
  have L7 := Aside0.mk l7
  have SZ6 := Aside0.mk s6
  have SZ7 := Aside0.mk s7
  have Z0 := Aside0.mk z0
  have Z1 := Aside0.mk z1
  have Z2 := Aside0.mk z2
  have Z3 := Aside0.mk z3
  have Z4 := Aside0.mk z4
  have Z5 := Aside0.mk z5
  have Z6 := Aside0.mk z6
  have Z7 := Aside0.mk z7
  clear hI hB hlen wf wf6 wf7 C5 C6 C7 l5 l6 l7 s6 s7 e1 z0 z1 z2 z3 z4 z5 z6 z7
  go_enter Try.func42, Try.ntmps42
  go_wp2_with (first
    | (go_at_call 29; (with_reducible refine (wbn_c (acc := acc) (x.f0 % 256) HI0.out HB0.out (by have := HL.out; simp only [List.length_append, List.length_cons, List.length_nil, List.length_singleton] at this ⊢; omega)).mono ?_); rintro e w1 ⟨rfl, h1, h2⟩; have HI1 := Aside0.mk h1; have HB1 := Aside0.mk h2; clear HI0 HB0 y0 y4 y6 y7; clear h1 h2; have y0 : w1.cell? ad = some (.int .i64 x.f0) := pw_cell_below HB1.out Z0.out; have y4 : w1.cell? ⟨ad.block, ad.off + 4, none⟩ = some (.int .i64 x.f4) := pw_cell_below HB1.out Z4.out; have y6 : w1.cell? ⟨ad.block, ad.off + 6, none⟩ = some (.slice A6 x.f6.length c6) := pw_cell_below HB1.out Z6.out; have y7 : w1.cell? ⟨ad.block, ad.off + 7, none⟩ = some (.slice A7 x.f7.length c7) := pw_cell_below HB1.out Z7.out;)
    | (go_at_call 40; (with_reducible refine (ofp_w hk _).mono ?_); rintro e w2 ⟨rfl, h2⟩; have HI2 := Aside0.mk (build_below HI1.out h2); have HB2 := Aside0.mk (below_next HB1.out h2); clear HI1 HB1 y0 y4 y6 y7; clear h2; have y0 : w2.cell? ad = some (.int .i64 x.f0) := pw_cell_below HB2.out Z0.out; have y4 : w2.cell? ⟨ad.block, ad.off + 4, none⟩ = some (.int .i64 x.f4) := pw_cell_below HB2.out Z4.out; have y6 : w2.cell? ⟨ad.block, ad.off + 6, none⟩ = some (.slice A6 x.f6.length c6) := pw_cell_below HB2.out Z6.out; have y7 : w2.cell? ⟨ad.block, ad.off + 7, none⟩ = some (.slice A7 x.f7.length c7) := pw_cell_below HB2.out Z7.out;)
    | (go_at_call 29; (with_reducible refine (wbn_c (acc := (acc ++ [x.f0 % 256])) (x.f4 % 256) HI2.out HB2.out (by have := HL.out; simp only [List.length_append, List.length_cons, List.length_nil, List.length_singleton] at this ⊢; omega)).mono ?_); rintro e w3 ⟨rfl, h1, h2⟩; have HI3 := Aside0.mk h1; have HB3 := Aside0.mk h2; clear HI2 HB2 y0 y4 y6 y7; clear h1 h2; have y0 : w3.cell? ad = some (.int .i64 x.f0) := pw_cell_below HB3.out Z0.out; have y4 : w3.cell? ⟨ad.block, ad.off + 4, none⟩ = some (.int .i64 x.f4) := pw_cell_below HB3.out Z4.out; have y6 : w3.cell? ⟨ad.block, ad.off + 6, none⟩ = some (.slice A6 x.f6.length c6) := pw_cell_below HB3.out Z6.out; have y7 : w3.cell? ⟨ad.block, ad.off + 7, none⟩ = some (.slice A7 x.f7.length c7) := pw_cell_below HB3.out Z7.out;)
    | (go_at_call 28; (with_reducible refine (ih.out x.f6 SZ6.out b ((acc ++ [x.f0 % 256]) ++ [x.f4 % 256]) w3 A6 c6 C6'.out L6.out HI3.out HB3.out (by have := HL.out; simp only [List.length_append, List.length_cons, List.length_nil, List.length_singleton] at this ⊢; omega) WF6.out).mono ?_); rintro e w4 ⟨rfl, h1, h2⟩; have HI4 := Aside0.mk h1; have HB4 := Aside0.mk h2; clear HI3 HB3 y0 y4 y6 y7; clear h1 h2; have y0 : w4.cell? ad = some (.int .i64 x.f0) := pw_cell_below HB4.out Z0.out; have y4 : w4.cell? ⟨ad.block, ad.off + 4, none⟩ = some (.int .i64 x.f4) := pw_cell_below HB4.out Z4.out; have y6 : w4.cell? ⟨ad.block, ad.off + 6, none⟩ = some (.slice A6 x.f6.length c6) := pw_cell_below HB4.out Z6.out; have y7 : w4.cell? ⟨ad.block, ad.off + 7, none⟩ = some (.slice A7 x.f7.length c7) := pw_cell_below HB4.out Z7.out;)
    | (go_at_call 29; (with_reducible refine (wbn_c (acc := (((acc ++ [x.f0 % 256]) ++ [x.f4 % 256]) ++ putL x.f6)) (11) HI4.out HB4.out (by have := HL.out; simp only [List.length_append, List.length_cons, List.length_nil, List.length_singleton] at this ⊢; omega)).mono ?_); rintro e w5 ⟨rfl, h1, h2⟩; have HI5 := Aside0.mk h1; have HB5 := Aside0.mk h2; clear HI4 HB4 y0 y4 y6 y7; clear h1 h2; have y0 : w5.cell? ad = some (.int .i64 x.f0) := pw_cell_below HB5.out Z0.out; have y4 : w5.cell? ⟨ad.block, ad.off + 4, none⟩ = some (.int .i64 x.f4) := pw_cell_below HB5.out Z4.out; have y6 : w5.cell? ⟨ad.block, ad.off + 6, none⟩ = some (.slice A6 x.f6.length c6) := pw_cell_below HB5.out Z6.out; have y7 : w5.cell? ⟨ad.block, ad.off + 7, none⟩ = some (.slice A7 x.f7.length c7) := pw_cell_below HB5.out Z7.out;))
  go_end0
  exact put_done rfl HI5.out HB5.out (by simp)

set_option maxHeartbeats 4000000 in
set_option maxRecDepth 100000 in
theorem putone_2e (hk : ofF x.f0 = 2) (he : 0 < x.f7.length) :
    Calls Try.prog 42 #[.pointer (some ⟨b, 0, none⟩), .pointer (some ad)] W (PutPost w0 b (acc ++ oneL x)) := by
  have e1 : oneL x = x.f0 % 256 :: (x.f4 % 256 :: (putL x.f6 ++ (5 :: (putL x.f7 ++ [11])))) := by
    unfold oneL behind
    rw [hk]
    simp [he]
  rw [e1] at hlen ⊢
  have d7 : decide (0 < x.f7.length) = true := decide_eq_true he
  have d72 : decide ((x.f7.length : Int) > 0) = true := decide_eq_true (by omega)
  have d73 : decide ((0 : Int) < (x.f7.length : Int)) = true := decide_eq_true (by omega)
  clear he
  have y0 : W.cell? ad = some (.int .i64 x.f0) := pw_cell_below hB z0
  have y4 : W.cell? ⟨ad.block, ad.off + 4, none⟩ = some (.int .i64 x.f4) := pw_cell_below hB z4
  have y6 : W.cell? ⟨ad.block, ad.off + 6, none⟩ = some (.slice A6 x.f6.length c6) := pw_cell_below hB z6
  have y7 : W.cell? ⟨ad.block, ad.off + 7, none⟩ = some (.slice A7 x.f7.length c7) := pw_cell_below hB z7
  have HI0 := Aside0.mk hI
  have HB0 := Aside0.mk hB
  have HL := Aside0.mk hlen
  have WF := Aside0.mk wf
  have WF6 := Aside0.mk wf6
  have WF7 := Aside0.mk wf7
  have C5' := Aside0.mk C5
  have C6' := Aside0.mk C6
  have C7' := Aside0.mk C7
  have L5 := Aside0.mk l5
  have L6 := Aside0.mk l6
  have L7 := Aside0.mk l7
  have SZ6 := Aside0.mk s6
  have SZ7 := Aside0.mk s7
  have Z0 := Aside0.mk z0
  have Z1 := Aside0.mk z1
  have Z2 := Aside0.mk z2
  have Z3 := Aside0.mk z3
  have Z4 := Aside0.mk z4
  have Z5 := Aside0.mk z5
  have Z6 := Aside0.mk z6
  have Z7 := Aside0.mk z7
  clear hI hB hlen wf wf6 wf7 C5 C6 C7 l5 l6 l7 s6 s7 e1 z0 z1 z2 z3 z4 z5 z6 z7
  go_enter Try.func42, Try.ntmps42
  go_wp2_with (first
    | (go_at_call 29; (with_reducible refine (wbn_c (acc := acc) (x.f0 % 256) HI0.out HB0.out (by have := HL.out; simp only [List.length_append, List.length_cons, List.length_nil, List.length_singleton] at this ⊢; omega)).mono ?_); rintro e w1 ⟨rfl, h1, h2⟩; have HI1 := Aside0.mk h1; have HB1 := Aside0.mk h2; clear HI0 HB0 y0 y4 y6 y7; clear h1 h2; have y0 : w1.cell? ad = some (.int .i64 x.f0) := pw_cell_below HB1.out Z0.out; have y4 : w1.cell? ⟨ad.block, ad.off + 4, none⟩ = some (.int .i64 x.f4) := pw_cell_below HB1.out Z4.out; have y6 : w1.cell? ⟨ad.block, ad.off + 6, none⟩ = some (.slice A6 x.f6.length c6) := pw_cell_below HB1.out Z6.out; have y7 : w1.cell? ⟨ad.block, ad.off + 7, none⟩ = some (.slice A7 x.f7.length c7) := pw_cell_below HB1.out Z7.out;)
    | (go_at_call 40; (with_reducible refine (ofp_w hk _).mono ?_); rintro e w2 ⟨rfl, h2⟩; have HI2 := Aside0.mk (build_below HI1.out h2); have HB2 := Aside0.mk (below_next HB1.out h2); clear HI1 HB1 y0 y4 y6 y7; clear h2; have y0 : w2.cell? ad = some (.int .i64 x.f0) := pw_cell_below HB2.out Z0.out; have y4 : w2.cell? ⟨ad.block, ad.off + 4, none⟩ = some (.int .i64 x.f4) := pw_cell_below HB2.out Z4.out; have y6 : w2.cell? ⟨ad.block, ad.off + 6, none⟩ = some (.slice A6 x.f6.length c6) := pw_cell_below HB2.out Z6.out; have y7 : w2.cell? ⟨ad.block, ad.off + 7, none⟩ = some (.slice A7 x.f7.length c7) := pw_cell_below HB2.out Z7.out;)
    | (go_at_call 29; (with_reducible refine (wbn_c (acc := (acc ++ [x.f0 % 256])) (x.f4 % 256) HI2.out HB2.out (by have := HL.out; simp only [List.length_append, List.length_cons, List.length_nil, List.length_singleton] at this ⊢; omega)).mono ?_); rintro e w3 ⟨rfl, h1, h2⟩; have HI3 := Aside0.mk h1; have HB3 := Aside0.mk h2; clear HI2 HB2 y0 y4 y6 y7; clear h1 h2; have y0 : w3.cell? ad = some (.int .i64 x.f0) := pw_cell_below HB3.out Z0.out; have y4 : w3.cell? ⟨ad.block, ad.off + 4, none⟩ = some (.int .i64 x.f4) := pw_cell_below HB3.out Z4.out; have y6 : w3.cell? ⟨ad.block, ad.off + 6, none⟩ = some (.slice A6 x.f6.length c6) := pw_cell_below HB3.out Z6.out; have y7 : w3.cell? ⟨ad.block, ad.off + 7, none⟩ = some (.slice A7 x.f7.length c7) := pw_cell_below HB3.out Z7.out;)
    | (go_at_call 28; (with_reducible refine (ih.out x.f6 SZ6.out b ((acc ++ [x.f0 % 256]) ++ [x.f4 % 256]) w3 A6 c6 C6'.out L6.out HI3.out HB3.out (by have := HL.out; simp only [List.length_append, List.length_cons, List.length_nil, List.length_singleton] at this ⊢; omega) WF6.out).mono ?_); rintro e w4 ⟨rfl, h1, h2⟩; have HI4 := Aside0.mk h1; have HB4 := Aside0.mk h2; clear HI3 HB3 y0 y4 y6 y7; clear h1 h2; have y0 : w4.cell? ad = some (.int .i64 x.f0) := pw_cell_below HB4.out Z0.out; have y4 : w4.cell? ⟨ad.block, ad.off + 4, none⟩ = some (.int .i64 x.f4) := pw_cell_below HB4.out Z4.out; have y6 : w4.cell? ⟨ad.block, ad.off + 6, none⟩ = some (.slice A6 x.f6.length c6) := pw_cell_below HB4.out Z6.out; have y7 : w4.cell? ⟨ad.block, ad.off + 7, none⟩ = some (.slice A7 x.f7.length c7) := pw_cell_below HB4.out Z7.out;)
    | (go_at_call 29; (with_reducible refine (wbn_c (acc := (((acc ++ [x.f0 % 256]) ++ [x.f4 % 256]) ++ putL x.f6)) (5) HI4.out HB4.out (by have := HL.out; simp only [List.length_append, List.length_cons, List.length_nil, List.length_singleton] at this ⊢; omega)).mono ?_); rintro e w5 ⟨rfl, h1, h2⟩; have HI5 := Aside0.mk h1; have HB5 := Aside0.mk h2; clear HI4 HB4 y0 y4 y6 y7; clear h1 h2; have y0 : w5.cell? ad = some (.int .i64 x.f0) := pw_cell_below HB5.out Z0.out; have y4 : w5.cell? ⟨ad.block, ad.off + 4, none⟩ = some (.int .i64 x.f4) := pw_cell_below HB5.out Z4.out; have y6 : w5.cell? ⟨ad.block, ad.off + 6, none⟩ = some (.slice A6 x.f6.length c6) := pw_cell_below HB5.out Z6.out; have y7 : w5.cell? ⟨ad.block, ad.off + 7, none⟩ = some (.slice A7 x.f7.length c7) := pw_cell_below HB5.out Z7.out;)
    | (go_at_call 28; (with_reducible refine (ih.out x.f7 SZ7.out b ((((acc ++ [x.f0 % 256]) ++ [x.f4 % 256]) ++ putL x.f6) ++ [5]) w5 A7 c7 C7'.out L7.out HI5.out HB5.out (by have := HL.out; simp only [List.length_append, List.length_cons, List.length_nil, List.length_singleton] at this ⊢; omega) WF7.out).mono ?_); rintro e w6 ⟨rfl, h1, h2⟩; have HI6 := Aside0.mk h1; have HB6 := Aside0.mk h2; clear HI5 HB5 y0 y4 y6 y7; clear h1 h2; have y0 : w6.cell? ad = some (.int .i64 x.f0) := pw_cell_below HB6.out Z0.out; have y4 : w6.cell? ⟨ad.block, ad.off + 4, none⟩ = some (.int .i64 x.f4) := pw_cell_below HB6.out Z4.out; have y6 : w6.cell? ⟨ad.block, ad.off + 6, none⟩ = some (.slice A6 x.f6.length c6) := pw_cell_below HB6.out Z6.out; have y7 : w6.cell? ⟨ad.block, ad.off + 7, none⟩ = some (.slice A7 x.f7.length c7) := pw_cell_below HB6.out Z7.out;)
    | (go_at_call 29; (with_reducible refine (wbn_c (acc := (((((acc ++ [x.f0 % 256]) ++ [x.f4 % 256]) ++ putL x.f6) ++ [5]) ++ putL x.f7)) (11) HI6.out HB6.out (by have := HL.out; simp only [List.length_append, List.length_cons, List.length_nil, List.length_singleton] at this ⊢; omega)).mono ?_); rintro e w7 ⟨rfl, h1, h2⟩; have HI7 := Aside0.mk h1; have HB7 := Aside0.mk h2; clear HI6 HB6 y0 y4 y6 y7; clear h1 h2; have y0 : w7.cell? ad = some (.int .i64 x.f0) := pw_cell_below HB7.out Z0.out; have y4 : w7.cell? ⟨ad.block, ad.off + 4, none⟩ = some (.int .i64 x.f4) := pw_cell_below HB7.out Z4.out; have y6 : w7.cell? ⟨ad.block, ad.off + 6, none⟩ = some (.slice A6 x.f6.length c6) := pw_cell_below HB7.out Z6.out; have y7 : w7.cell? ⟨ad.block, ad.off + 7, none⟩ = some (.slice A7 x.f7.length c7) := pw_cell_below HB7.out Z7.out;))
  go_end0
  exact put_done rfl HI7.out HB7.out (by simp)

set_option maxHeartbeats 4000000 in
set_option maxRecDepth 100000 in
theorem putone_0 (hk : ofF x.f0 = 0) :
    Calls Try.prog 42 #[.pointer (some ⟨b, 0, none⟩), .pointer (some ad)] W (PutPost w0 b (acc ++ oneL x)) := by
  have e1 : oneL x = x.f0 % 256 :: [] := by
    unfold oneL behind
    rw [hk]
    simp
  rw [e1] at hlen ⊢
  have y0 : W.cell? ad = some (.int .i64 x.f0) := pw_cell_below hB z0
  have HI0 := Aside0.mk hI
  have HB0 := Aside0.mk hB
  have HL := Aside0.mk hlen
  have WF := Aside0.mk wf
  have WF6 := Aside0.mk wf6
  have WF7 := Aside0.mk wf7
  have C5' := Aside0.mk C5
  have C6' := Aside0.mk C6
  have C7' := Aside0.mk C7
  have L5 := Aside0.mk l5
  have L6 := Aside0.mk l6
  have L7 := Aside0.mk l7
  have SZ6 := Aside0.mk s6
  have SZ7 := Aside0.mk s7
  have Z0 := Aside0.mk z0
  have Z1 := Aside0.mk z1
  have Z2 := Aside0.mk z2
  have Z3 := Aside0.mk z3
  have Z4 := Aside0.mk z4
  have Z5 := Aside0.mk z5
  have Z6 := Aside0.mk z6
  have Z7 := Aside0.mk z7
  clear hI hB hlen wf wf6 wf7 C5 C6 C7 l5 l6 l7 s6 s7 e1 z0 z1 z2 z3 z4 z5 z6 z7
  go_enter Try.func42, Try.ntmps42
  go_wp2_with (first
    | (go_at_call 29; (with_reducible refine (wbn_c (acc := acc) (x.f0 % 256) HI0.out HB0.out (by have := HL.out; simp only [List.length_append, List.length_cons, List.length_nil, List.length_singleton] at this ⊢; omega)).mono ?_); rintro e w1 ⟨rfl, h1, h2⟩; have HI1 := Aside0.mk h1; have HB1 := Aside0.mk h2; clear HI0 HB0 y0; clear h1 h2; have y0 : w1.cell? ad = some (.int .i64 x.f0) := pw_cell_below HB1.out Z0.out;)
    | (go_at_call 40; (with_reducible refine (ofp_w hk _).mono ?_); rintro e w2 ⟨rfl, h2⟩; have HI2 := Aside0.mk (build_below HI1.out h2); have HB2 := Aside0.mk (below_next HB1.out h2); clear HI1 HB1 y0; clear h2; have y0 : w2.cell? ad = some (.int .i64 x.f0) := pw_cell_below HB2.out Z0.out;))
  go_end0
  exact put_done rfl HI2.out HB2.out (by simp)

theorem putone_c :
    Calls Try.prog 42 #[.pointer (some ⟨b, 0, none⟩), .pointer (some ad)] W (PutPost w0 b (acc ++ oneL x)) := by
  have rng : ofF x.f0 = 0 ∨ ofF x.f0 = 1 ∨ ofF x.f0 = 2 ∨ ofF x.f0 = 3 ∨ ofF x.f0 = 4 ∨ ofF x.f0 = 5 ∨ ofF x.f0 = 6 ∨ ofF x.f0 = 7 ∨ ofF x.f0 = 8 ∨ ofF x.f0 = 9 := by
    unfold ofF
    repeat' split
    all_goals omega
  rcases rng with h' | h' | h' | h' | h' | h' | h' | h' | h' | h'
  · exact putone_0 ih z0 z1 z2 z3 z4 z5 z6 z7 l5 C5 l6 C6 l7 C7 s6 s7 hI hB hlen wf wf6 wf7 h'
  · exact putone_1 ih z0 z1 z2 z3 z4 z5 z6 z7 l5 C5 l6 C6 l7 C7 s6 s7 hI hB hlen wf wf6 wf7 h'
  · by_cases he : 0 < x.f7.length
    · exact putone_2e ih z0 z1 z2 z3 z4 z5 z6 z7 l5 C5 l6 C6 l7 C7 s6 s7 hI hB hlen wf wf6 wf7 h' he
    · exact putone_2 ih z0 z1 z2 z3 z4 z5 z6 z7 l5 C5 l6 C6 l7 C7 s6 s7 hI hB hlen wf wf6 wf7 h' (by omega)
  · exact putone_3 ih z0 z1 z2 z3 z4 z5 z6 z7 l5 C5 l6 C6 l7 C7 s6 s7 hI hB hlen wf wf6 wf7 h'
  · exact putone_4 ih z0 z1 z2 z3 z4 z5 z6 z7 l5 C5 l6 C6 l7 C7 s6 s7 hI hB hlen wf wf6 wf7 h'
  · exact putone_5 ih z0 z1 z2 z3 z4 z5 z6 z7 l5 C5 l6 C6 l7 C7 s6 s7 hI hB hlen wf wf6 wf7 h'
  · exact putone_6 ih z0 z1 z2 z3 z4 z5 z6 z7 l5 C5 l6 C6 l7 C7 s6 s7 hI hB hlen wf wf6 wf7 h'
  · exact putone_7 ih z0 z1 z2 z3 z4 z5 z6 z7 l5 C5 l6 C6 l7 C7 s6 s7 hI hB hlen wf wf6 wf7 h'
  · by_cases h65 : x.f0 = 65
    · exact putone_8s ih z0 z1 z2 z3 z4 z5 z6 z7 l5 C5 l6 C6 l7 C7 s6 s7 hI hB hlen wf wf6 wf7 h' h65
    · exact putone_8 ih z0 z1 z2 z3 z4 z5 z6 z7 l5 C5 l6 C6 l7 C7 s6 s7 hI hB hlen wf wf6 wf7 h' h65
  · cases hw : wideB x.f0 with
    | true => exact putone_9w ih z0 z1 z2 z3 z4 z5 z6 z7 l5 C5 l6 C6 l7 C7 s6 s7 hI hB hlen wf wf6 wf7 h' hw
    | false => exact putone_9 ih z0 z1 z2 z3 z4 z5 z6 z7 l5 C5 l6 C6 l7 C7 s6 s7 hI hB hlen wf wf6 wf7 h' hw

end
end Go.Proofs.Ytbekfmeaeaghpaa.EInstr
namespace Go.Proofs.Ytbekfmeaeaghpaa.EInstr
open Go Go.RowKit Go.Proofs.Ytbekfmeaeaghpaa.F Go.Proofs.YtbekfmeaeaghpaaW.Hand Go.Proofs.YtbekfmeaeaghpaaW.PrintWords Go.Proofs.YtbekfmeaeaghpaaW.PrintLast Go.Proofs.YtbekfmeaeaghpaaW.PrintMore
open Go.Proofs.Ytbekfmeaeaghpaa.EBuild
open Go.Proofs.Ytbekfmeaeaghpaa.LebMath (U S)
set_option linter.unusedVariables false
set_option linter.unusedSimpArgs false

def RelPut (w0 : World) (b : Nat) (acc : List Int) (is : List S44) (v7 : Value) (wr : World) : Prop :=
  ∃ i : Nat, i ≤ is.length ∧ v7 = .int .i64 i ∧ Lib.IsBuilder 61 5 w0.heap.size b (nums .u8 (acc ++ putL (is.take i))) wr ∧ Below w0.heap.size w0 wr
theorem wf64_at : ∀ (is : List S44) (i : Nat) (h : i < is.length), wf64 is → (-9223372036854775808 ≤ is[i].f3 ∧ is[i].f3 < 9223372036854775808) ∧ wf64 is[i].f6 ∧ wf64 is[i].f7
  | x :: xs, 0, _, h => by
    rw [wf64] at h
    exact ⟨h.1, h.2.1, h.2.2.1⟩
  | x :: xs, i + 1, hi, h => by
    rw [wf64] at h
    exact wf64_at xs i (by simpa using hi) h.2.2.2
theorem wf64_cons (x : S44) (xs : List S44) : wf64 (x :: xs) ↔ (-9223372036854775808 ≤ x.f3 ∧ x.f3 < 9223372036854775808) ∧ wf64 x.f6 ∧ wf64 x.f7 ∧ wf64 xs := by rw [wf64]
theorem wf64_nil : wf64 [] := by
  rw [wf64]
  trivial
/-- One element's writing, packed. -/
structure ElPut (w0 : World) (b : Nat) (a : Addr) (x : S44) : Prop where
  out : ∀ (acc : List Int) (W : World), Lib.IsBuilder 61 5 w0.heap.size b (nums .u8 acc) W → Below w0.heap.size w0 W → acc.length + (oneL x).length ≤ 140737488355328 → Calls Try.prog 42 #[.pointer (some ⟨b, 0, none⟩), .pointer (some a)] W (PutPost w0 b (acc ++ oneL x))
theorem el_put {w0 : World} {sz : Nat} (ih : PutIh w0 sz) {is : List S44} (hsz : SizeOf.sizeOf is ≤ sz + 1) {A : Option Addr} (hC : k44.C w0 A is.length is) (wf : wf64 is) (b : Nat) {i : Nat} (hlt : i < is.length) :
    ∃ ad, A = some ad ∧ ElPut w0 b (ad.add (i * 8)) is[i] := by
  obtain ⟨ad, A5, a5c, A6, a6c, A7, a7c, eA, z0, z1, z2, z3, z4, z5, z6, z7, l5, C5, l6, C6, l7, C7⟩ := at_T44 hC (i : Int) (by omega) (by omega)
  subst eA
  have ex : rd_T44 is (i : Int) = is[i] := by
    unfold rd_T44
    rw [Int.toNat_natCast, List.getD_eq_getElem?_getD, List.getElem?_eq_getElem hlt]
    rfl
  have wfx := wf64_at is i hlt wf
  have hszx : SizeOf.sizeOf is[i] < SizeOf.sizeOf is := List.sizeOf_lt_of_mem (List.getElem_mem hlt)
  have s67 := size44 is[i]
  rw [ex] at z0 z1 z2 z3 z4 z5 z6 z7 l5 C5 l6 C6 l7 C7
  simp only [Int.toNat_natCast] at z0 z1 z2 z3 z4 z5 z6 z7
  exact ⟨ad, rfl, ⟨fun acc W hI hB hlen => putone_c ih z0 z1 z2 z3 z4 z5 z6 z7 l5 C5 l6 C6 l7 C7 (by omega) (by omega) hI hB hlen wfx.1 wfx.2.1 wfx.2.2⟩⟩
set_option maxHeartbeats 2000000 in
set_option maxRecDepth 100000 in
theorem put_step (w0 : World) (sz : Nat) (ih : PutIh w0 sz) : PutIh w0 (sz + 1) := by
  refine ⟨fun is hsz b acc W A c hC hc hI hB hlen wf => ?_⟩
  have HE : Aside0 (∀ i (hlt : i < is.length), ∃ ad, A = some ad ∧ ElPut w0 b (ad.add (i * 8)) is[i]) := ⟨fun i hlt => el_put ih hsz hC wf b hlt⟩
  have hmx : (is.length : Int) ≤ 9223372036854775807 := by have := Kd.C_max hC; unfold maxLen at this; omega
  have HI := Aside0.mk hI
  have HB := Aside0.mk hB
  have HL := Aside0.mk hlen
  clear hC hI hB hlen wf hsz ih
  go_enter Try.func28, Try.ntmps28
  go_wp2
  go_loopw [7] (fun v7 wr => RelPut w0 b acc is v7 wr) (fun v7 _ => is.length - (intOf v7).toNat)
  case atStart => exact ⟨0, Nat.zero_le _, rfl, by simpa [putL_nil] using HI.out, HB.out⟩
  case round =>
    obtain ⟨i, hi, rfl, hI, hW⟩ := hrel
    have HI2 := Aside0.mk hI
    have HW := Aside0.mk hW
    clear hI hW
    by_cases hlt : i < is.length
    · have dl : decide (i < is.length) = true := decide_eq_true hlt
      have dl2 : decide ((i : Int) < (is.length : Int)) = true := decide_eq_true (by omega)
      have hi0 : (0 : Int) ≤ (i : Int) := by omega
      obtain ⟨ad, eA, hE⟩ := HE.out i hlt
      subst eA
      have tk : putL (is.take (i + 1)) = putL (is.take i) ++ oneL is[i] := by
        have e : is.take (i + 1) = is.take i ++ [is[i]] := by
          rw [List.take_add_one, List.getElem?_eq_getElem hlt]
          rfl
        rw [e, putL_append, putL_cons, putL_nil, List.append_nil]
      have tl : (putL (is.take i)).length + (oneL is[i]).length ≤ (putL is).length := by
        rw [← List.length_append, ← tk]
        conv => rhs; rw [← List.take_append_drop (i + 1) is, putL_append, List.length_append]
        omega
      have TK := Aside0.mk tk
      have TL := Aside0.mk tl
      have HX := Aside0.mk hE
      clear tk tl hE
      generalize is[i] = x at *
      go_wp2_with (go_at_call 42; (with_reducible refine (HX.out.out (acc ++ putL (is.take i)) wr HI2.out HW.out (by have := HL.out; have := TL.out; rw [List.length_append]; omega)).mono ?_); rintro e w2 ⟨rfl, h1, h2⟩; have H1 := Aside0.mk h1; have H2 := Aside0.mk h2; clear h1 h2)
      exact ⟨⟨i + 1, hlt, by simp, by rw [TK.out, ← List.append_assoc]; exact H1.out, H2.out⟩, by simp [intOf]; omega⟩
    · have dl : decide (i < is.length) = false := decide_eq_false hlt
      have dl2 : decide ((i : Int) < (is.length : Int)) = false := decide_eq_false (by omega)
      go_wp2
      go_end0
      refine put_done rfl HI2.out HW.out ?_
      rw [List.take_of_length_le (by omega)]
theorem put_all (w0 : World) : ∀ sz, PutIh w0 sz
  | 0 => ⟨fun is hsz => by cases is <;> simp at hsz⟩
  | sz + 1 => put_step w0 sz (put_all w0 sz)

theorem oneL_len (x : S44) (h : x.f5.length ≤ 1024) (wf : -9223372036854775808 ≤ x.f3 ∧ x.f3 < 9223372036854775808) : (oneL x).length ≤ 10300 + (putL x.f6).length + (putL x.f7).length := by
  have u := fun y => (uB_spec y).2
  have sg : (sB (if x.f0 = 65 then signF x.f3 else x.f3)).length ≤ 10 := by
    split
    · exact (sB_spec _ (by unfold signF wrap64; omega) (by unfold signF wrap64; omega)).2
    · exact (sB_spec _ wf.1 wf.2).2
  have fm : ∀ l : List Int, (l.flatMap uB).length ≤ 10 * l.length := by
    intro l
    induction l with
    | nil => simp
    | cons y l ih =>
      rw [List.flatMap_cons, List.length_append, List.length_cons]
      have := u y
      omega
  have e1 := u x.f1
  have e2 := u x.f2
  have e3 := u ((x.f5.length : Int) - 1)
  have e4 := fm x.f5
  unfold oneL behind
  generalize sB (if x.f0 = 65 then signF x.f3 else x.f3) = zz at *
  rw [List.length_cons]
  repeat' split
  all_goals try simp only [List.length_append, List.length_cons, List.length_nil, lowB_len]
  all_goals omega
theorem putL_len : ∀ (sz : Nat) (is : List S44), SizeOf.sizeOf is ≤ sz → ∀ d, (∀ q ∈ pre d is, q.2.f5.length ≤ 1024) → wf64 is → (putL is).length ≤ 10300 * (pre d is).length := by
  intro sz
  induction sz with
  | zero =>
    intro is h
    cases is <;> simp at h
  | succ sz ih =>
    intro is hsz d hq wf
    cases is with
    | nil => simp [putL_nil]
    | cons x xs =>
      rw [wf64_cons] at wf
      have s67 := size44 x
      simp only [List.cons.sizeOf_spec] at hsz
      rw [putL_cons, pre_cons]
      rw [pre_cons] at hq
      have a6 := ih x.f6 (by omega) (d + 1) (fun q hm => hq q (by simp [hm])) wf.2.1
      have a7 := ih x.f7 (by omega) (d + 1) (fun q hm => hq q (by simp [hm])) wf.2.2.1
      have ax := ih xs (by omega) d (fun q hm => hq q (by simp [hm])) wf.2.2.2
      have a0 := oneL_len x (hq (d, x) (by simp)) wf.1
      simp only [List.length_append, List.length_cons] at *
      omega
theorem scan_each {f : Nat → Nat × S44 → Int} : ∀ (l : List (Nat × S44)) (n : Nat), scanE f n l = 0 → ∀ q ∈ l, ∃ k, f k q = 0
  | [], _, _, q, hq => by simp at hq
  | e :: r, n, h, q, hq => by
    rw [scanE_cons] at h
    split at h
    · rename_i he
      rcases List.mem_cons.1 hq with rfl | hq
      · exact ⟨_, he⟩
      · exact scan_each r _ h q hq
    · exact absurd h ‹_›
theorem may_all {is : List S44} (h : mayE is = 0) : (pre 0 is).length ≤ 8192 ∧ ∀ q ∈ pre 0 is, mayB q.2 = true ∧ ¬ (ofF q.2.f0 = 2 ∧ 32 ≤ q.1) := by
  refine ⟨by have := scan_len stepE_big _ 0 h (by omega); omega, fun q hq => ?_⟩
  obtain ⟨k, hk⟩ := scan_each _ _ h q hq
  unfold stepE at hk
  split at hk
  · omega
  · rename_i h1
    split at hk
    · omega
    · rename_i h2
      refine ⟨?_, h1⟩
      cases hm : mayB q.2 with
      | true => rfl
      | false => exact absurd (Or.inr hm) h2
theorem may_f5 {x : S44} (h : mayB x = true) : x.f5.length ≤ 1024 := by
  unfold mayB at h
  simp only [Bool.and_eq_true] at h
  have := h.1.2
  unfold mayL at this
  split at this
  · simp at this
    omega
  · simp at this
    rw [this]
    simp
theorem putL_bound {is : List S44} (h : mayE is = 0) (wf : wf64 is) : (putL is).length ≤ 84377600 := by
  have a := may_all h
  have := putL_len _ is (Nat.le_refl _) 0 (fun q hq => may_f5 (a.2 q hq).1) wf
  omega
theorem lowB_rng (x : Int) : ∀ k i, ∀ d ∈ lowB x k i, 0 ≤ d ∧ d < 256
  | 0, _, d, h => by simp [lowB] at h
  | k + 1, i, d, h => by
    rw [lowB] at h
    rcases List.mem_cons.1 h with rfl | h
    · omega
    · exact lowB_rng x k (i + 1) d h
theorem putL_rng : ∀ (sz : Nat) (is : List S44), SizeOf.sizeOf is ≤ sz → wf64 is → ∀ d ∈ putL is, 0 ≤ d ∧ d < 256 := by
  intro sz
  induction sz with
  | zero =>
    intro is h
    cases is <;> simp at h
  | succ sz ih =>
    intro is hsz wf
    cases is with
    | nil => simp [putL_nil]
    | cons x xs =>
      rw [wf64_cons] at wf
      have s67 := size44 x
      simp only [List.cons.sizeOf_spec] at hsz
      have a6 := ih x.f6 (by omega) wf.2.1
      have a7 := ih x.f7 (by omega) wf.2.2.1
      have ax := ih xs (by omega) wf.2.2.2
      have sg : ∀ d ∈ sB (if x.f0 = 65 then signF x.f3 else x.f3), 0 ≤ d ∧ d < 256 := by
        split
        · exact sB_rng _ (by unfold signF wrap64; omega) (by unfold signF wrap64; omega)
        · exact sB_rng _ wf.1.1 wf.1.2
      have u1 := uB_rng x.f1
      have u2 := uB_rng x.f2
      have u3 := uB_rng ((x.f5.length : Int) - 1)
      have fl : ∀ d ∈ x.f5.flatMap uB, 0 ≤ d ∧ d < 256 := fun d hd => by
        obtain ⟨y, _, hy⟩ := List.mem_flatMap.1 hd
        exact uB_rng y d hy
      have lo := fun k => lowB_rng x.f3 k 0
      intro d hd
      rw [putL_cons] at hd
      rcases List.mem_append.1 hd with hd | hd
      · unfold oneL behind at hd
        generalize sB (if x.f0 = 65 then signF x.f3 else x.f3) = zz at *
        rcases List.mem_cons.1 hd with rfl | hd
        · omega
        · repeat' split at hd
          all_goals try simp only [List.mem_append, List.mem_cons, List.not_mem_nil, or_false, false_or] at hd
          all_goals first
            | (rcases hd with rfl | (hd | rfl | hd) | rfl <;> first | omega | exact a6 d hd | exact a7 d hd)
            | (rcases hd with rfl | hd | rfl <;> first | omega | exact a6 d hd)
            | exact u1 d hd
            | (rcases hd with hd | hd; exact u3 d hd; exact fl d hd)
            | (rcases hd with hd | rfl; exact u1 d hd; omega)
            | (rcases hd with hd | hd; exact u1 d hd; exact u2 d hd)
            | (obtain rfl := hd; omega)
            | exact sg d hd
            | exact lo _ d hd
            | exact hd.elim
            | (simp at hd; done)
      · exact ax d hd
abbrev putS (is : List S44) : ByteArray := strOfNums (putL is ++ [11])
theorem may_at0 {P : Program} {f : FuncId} {args : Array Value} {W : World} {x y : Int} (h : x = y) (hc : Calls P f args W fun e w' => e = .returned (.int .i64 x) ∧ Below W.heap.size W w') : Calls P f args W fun e w' => e = .returned (.int .i64 y) ∧ Below W.heap.size W w' := by
  subst h
  exact hc
theorem fresh_build {w1 w2 : World} {g : Nat} (hg : g = w1.heap.size) (hA : w2.heap[g]? = some (.cells #[.pointer none, .slice none 0 0] 61 (0, 0))) : Lib.IsBuilder 61 5 w1.heap.size g (nums .u8 []) w2 :=
  .inl ⟨by omega, .slice none 0 0, hA, World.ownsRow_nil _ _ _ _, by simp [Value.ownBlock]⟩
theorem fin_rng {ds : List Int} (h : ∀ d ∈ ds, 0 ≤ d ∧ d < 256) : ∀ d ∈ [] ++ ds ++ [11], 0 ≤ d ∧ d < 256 := fun d hd => by
  simp only [List.nil_append, List.mem_append, List.mem_singleton] at hd
  rcases hd with hd | rfl
  · exact h d hd
  · omega
theorem string_n {w0 W : World} {b : Nat} {ds : List Int} (hr : ∀ d ∈ ds, 0 ≤ d ∧ d < 256) (h : Lib.IsBuilder 61 5 w0.heap.size b (nums .u8 ds) W) (hb : Below w0.heap.size w0 W) :
    Calls Try.prog 30 #[.pointer (some ⟨b, 0, none⟩)] W fun e w' => e = .returned (.string (strOfNums ds)) ∧ Below w0.heap.size w0 w' := by
  rw [← byteCells_nums ds hr] at h
  exact (Try.Builder_String_any w0.heap.size b _ W h hb.size).mono fun _ _ hh => ⟨hh.1, hb.trans hh.2⟩
set_option maxHeartbeats 2000000 in
set_option maxRecDepth 100000 in
theorem put_no {W : World} {is : List S44} {A : Option Addr} {c : Nat} (hC : k44.C W A is.length is) (hc : is.length ≤ c) (hm : mayE is ≠ 0) :
    Calls Try.prog 14 #[.slice A is.length c] W fun e w' => e = .returned (.tuple #[.string ByteArray.empty, .int .i64 (mayE is)]) ∧ Below W.heap.size W w' := by
  have e0 : (mayE is != 0) = true := bne_iff_ne.2 hm
  have HC := Aside0.mk hC
  clear hm hC
  go_enter Try.func14, Try.ntmps14
  go_wp2_with (go_at_call 27; (with_reducible refine (may_calls W is A c HC.out hc).mono ?_); rintro e w1 ⟨rfl, h1⟩; have H1 := Aside0.mk h1; clear h1)
  go_ret2
  exact ⟨rfl, H1.out⟩
set_option maxHeartbeats 2000000 in
set_option maxRecDepth 100000 in
theorem put_yes {W : World} {is : List S44} {A : Option Addr} {c : Nat} (hC : k44.C W A is.length is) (hc : is.length ≤ c) (wf : wf64 is) (hm : mayE is = 0) :
    Calls Try.prog 14 #[.slice A is.length c] W fun e w' => e = .returned (.tuple #[.string (putS is), .int .i64 0]) ∧ Below W.heap.size W w' := by
  have bd := putL_bound hm wf
  have HR := Aside0.mk (putL_rng _ is (Nat.le_refl _) wf)
  have HP := put_all
  have HC := Aside0.mk hC
  have WF := Aside0.mk wf
  have HM := Aside0.mk hm
  have BD := Aside0.mk bd
  have hpos : Aside0 (∀ w0 : World, PutIh w0 (SizeOf.sizeOf is)) := ⟨fun w0 => put_all w0 _⟩
  clear hC wf hm bd HP
  go_enter Try.func14, Try.ntmps14
  go_wp2_with (first
    | (go_at_call 27; (with_reducible refine (may_at0 HM.out (may_calls W is A c HC.out hc)).mono ?_); rintro e w1 ⟨rfl, h1⟩; have H1 := Aside0.mk h1; clear h1)
    | ((with_reducible refine gate_dst (N := 5) rfl ?_); refine box_event ?hg (N := 5) ?hd (cs := #[.pointer none, .slice none 0 0]) (t := 61) ?hr ?_; (case hd => rfl); (case hg => rfl); (case hr => first | (go_simp; done) | (go_simp; rfl)); intro g hgg w2 hA hb; have HI : Aside0 (Lib.IsBuilder 61 5 w1.heap.size g (nums .u8 []) w2) := ⟨fresh_build hgg hA⟩; have HB := Aside0.mk hb; clear hgg hA hb)
    | (go_at_call 28; (with_reducible refine ((hpos.out w1).out is (Nat.le_refl _) g [] w2 A c (Kd.C_below HC.out H1.out) hc HI.out HB.out (by have := BD.out; simp; omega) WF.out).mono ?_); rintro e w3 ⟨rfl, h1, h2⟩; have HI3 := Aside0.mk h1; have HB3 := Aside0.mk h2; clear h1 h2 HI HB)
    | (go_at_call 29; (with_reducible refine (wbn_c (acc := [] ++ putL is) 11 HI3.out HB3.out (by have := BD.out; simp; omega)).mono ?_); rintro e w4 ⟨rfl, h1, h2⟩; have HI4 := Aside0.mk h1; have HB4 := Aside0.mk h2; clear h1 h2 HI3 HB3)
    | (go_at_call 30; (with_reducible refine (string_n (ds := [] ++ putL is ++ [11]) (fin_rng HR.out) HI4.out HB4.out).mono ?_); rintro e w5 ⟨rfl, h2⟩; have HB5 := Aside0.mk h2; clear h2))
  go_ret2
  exact ⟨rfl, H1.out.trans (HB5.out.mono H1.out.size)⟩

end Go.Proofs.Ytbekfmeaeaghpaa.EInstr
