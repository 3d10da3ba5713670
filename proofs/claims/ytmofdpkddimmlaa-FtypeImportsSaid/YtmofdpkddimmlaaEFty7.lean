/-
  FtypeImports: words of its loops.
-/
import Derived.Test.YtmofdpkddimmlaaEFty6
namespace Go.Proofs.Ytmofdpkddimmlaa.EFty
open Go Go.RowKit Go.Proofs.Ytmofdpkddimmlaa.F Go.Proofs.YtmofdpkddimmlaaW.Hand Go.Proofs.YtmofdpkddimmlaaW.PrintWords Go.Proofs.YtmofdpkddimmlaaW.PrintLast Go.Proofs.YtmofdpkddimmlaaW.PrintMore
set_option linter.unusedVariables false
set_option linter.unusedSimpArgs false
theorem F_one {α : Type} {d : Kd α} {W : World} {g : Nat} {cs : List Value} {t : TypeId} {x : α} {ok : Nat → Prop} (h : W.heap[g]? = some (.cells cs.toArray t (0, 0))) (hg : ok g) (hk : Kd.FK d W ok x cs) : Kd.F d W ok (some ⟨g, 0, none⟩) 1 [x] := by
  intro W' hW
  refine ⟨rfl, by simp, fun _ => ⟨_, rfl, fun j p hp => ?_⟩⟩
  cases j with
  | zero =>
    obtain rfl : x = p := by simpa using hp
    have hK := hk W' hW
    refine ⟨cs, d.K_len hK, hK, fun i u hu => ?_⟩
    rw [add_plain, blk_cell ((hW g hg (blk_lt h)).trans h)]
    simpa using hu
  | succ j => simp at hp
theorem FK_36 {W : World} {xs : List Int} {A : Option Addr} {c : Nat} {ok : Nat → Prop} (h : Kd.F (Kd.int .i64) W ok A xs.length xs) (hc : xs.length ≤ c) : Kd.FK k36 W ok (⟨xs, []⟩ : S36) [.slice A xs.length c, .slice none 0 0] := fun W' hW => k36_mk W' ⟨xs, []⟩ hc (h W' hW) (Nat.le_refl _) (Kd.C_nil _ _)
theorem FK_90 {W : World} {a b : Int} {ok : Nat → Prop} : Kd.FK k90 W ok (⟨⟨#[]⟩, ⟨#[]⟩, a, b, false, ⟨0, 0⟩⟩ : S90) [.string ⟨#[]⟩, .string ⟨#[]⟩, .int .i64 a, .int .i64 b, .bool false, .int .i64 0, .int .i64 0] := fun W' _ => k90_mk W' _
theorem FK_93 {W : World} {a : Int} {ok : Nat → Prop} : Kd.FK k93 W ok (⟨a, true, []⟩ : S93) [.int .i64 a, .bool true, .slice none 0 0] := fun W' _ => k93_mk W' ⟨a, true, []⟩ (Nat.le_refl _) (Kd.C_nil _ _)
theorem FK_i {W : World} {x : Int} {ok : Nat → Prop} : Kd.FK (Kd.int .i64) W ok x [.int .i64 x] := fun W' _ => rfl
def TL (i : Nat) : List S36 := (List.range i).map fun (j : Nat) => (⟨List.replicate j 0, []⟩ : S36)
theorem TL_len (i : Nat) : (TL i).length = i := by simp [TL]
theorem TL_succ (i : Nat) : TL i ++ [(⟨List.replicate i 0, []⟩ : S36)] = TL (i + 1) := by unfold TL; rw [List.range_succ]; simp
def kd (ks : List Int) (i : Nat) : Int := Go.bits .and .i64 (ks.getD i 0) 3
def FULL (ks : List Int) (n : Nat) : List S90 := (List.range n).map fun (i : Nat) => (⟨⟨#[]⟩, ⟨#[]⟩, kd ks i, (i : Int), false, ⟨0, 0⟩⟩ : S90)
theorem FULL_len (ks : List Int) (n : Nat) : (FULL ks n).length = n := by simp [FULL]
theorem FULL_succ (ks : List Int) (i : Nat) : FULL ks i ++ [(⟨⟨#[]⟩, ⟨#[]⟩, kd ks i, (i : Int), false, ⟨0, 0⟩⟩ : S90)] = FULL ks (i + 1) := by unfold FULL; rw [List.range_succ]; simp
theorem FULL_at (ks : List Int) (n i : Nat) (h : i < n) : rd_T90 (FULL ks n) (i : Int) = ⟨⟨#[]⟩, ⟨#[]⟩, kd ks i, (i : Int), false, ⟨0, 0⟩⟩ := by
  unfold rd_T90 FULL
  simp [List.getD_eq_getElem?_getD, h]
/-- The places of the imports of kind K among the first i. -/
def plc (ks : List Int) (K : Int) (i : Nat) : List Int := ((List.range i).filter fun (j : Nat) => decide (kd ks j = K)).map fun (j : Nat) => (j : Int)
theorem plc_yes {ks : List Int} {K : Int} {i : Nat} (h : kd ks i = K) : plc ks K i ++ [(i : Int)] = plc ks K (i + 1) := by unfold plc; rw [List.range_succ]; simp [h]
theorem plc_no {ks : List Int} {K : Int} {i : Nat} (h : kd ks i ≠ K) : plc ks K (i + 1) = plc ks K i := by unfold plc; rw [List.range_succ]; simp [h]
theorem plc_le (ks : List Int) (K : Int) (i : Nat) : (plc ks K i).length ≤ i := by
  unfold plc
  rw [List.length_map]
  exact Nat.le_trans (List.length_filter_le _ _) (by simp)
def FS (j : Nat) : List Int := (List.range j).map fun (i : Nat) => 30 + (i : Int)
def TS (j : Nat) : List Int := (List.range j).map fun (i : Nat) => 100 + (i : Int)
def GS (j : Nat) : List S93 := (List.range j).map fun (i : Nat) => (⟨100 + (i : Int), true, []⟩ : S93)
theorem FS_len (j : Nat) : (FS j).length = j := by simp [FS]
theorem TS_len (j : Nat) : (TS j).length = j := by simp [TS]
theorem GS_len (j : Nat) : (GS j).length = j := by simp [GS]
theorem FS_succ (i : Nat) : FS i ++ [30 + (i : Int)] = FS (i + 1) := by unfold FS; rw [List.range_succ]; simp
theorem TS_succ (i : Nat) : TS i ++ [100 + (i : Int)] = TS (i + 1) := by unfold TS; rw [List.range_succ]; simp
theorem GS_succ (i : Nat) : GS i ++ [(⟨100 + (i : Int), true, []⟩ : S93)] = GS (i + 1) := by unfold GS; rw [List.range_succ]; simp
theorem and3 (x : Int) : ∃ k : Nat, k < 4 ∧ Go.bits .and .i64 x 3 = (k : Int) := by
  have e : Go.bits .and .i64 x 3 = IntKind.i64.wrap ((BitVec.ofInt 64 x &&& BitVec.ofInt 64 3).toNat : Int) := rfl
  have h : (BitVec.ofInt 64 x &&& BitVec.ofInt 64 3).toNat < 4 := by
    rw [BitVec.toNat_and]
    exact Nat.lt_succ_of_le (Nat.le_trans Nat.and_le_right (by decide))
  refine ⟨_, h, ?_⟩
  rw [e]
  generalize (BitVec.ofInt 64 x &&& BitVec.ofInt 64 3).toNat = n at h
  have : ∀ n : Fin 4, IntKind.i64.wrap (n.val : Int) = (n.val : Int) := by decide +kernel
  exact this ⟨n, h⟩
theorem and7 (x : Int) : ∃ k : Nat, k < 8 ∧ Go.bits .and .i64 x 7 = (k : Int) := by
  have e : Go.bits .and .i64 x 7 = IntKind.i64.wrap ((BitVec.ofInt 64 x &&& BitVec.ofInt 64 7).toNat : Int) := rfl
  have h : (BitVec.ofInt 64 x &&& BitVec.ofInt 64 7).toNat < 8 := by
    rw [BitVec.toNat_and]
    exact Nat.lt_succ_of_le (Nat.le_trans Nat.and_le_right (by decide))
  refine ⟨_, h, ?_⟩
  rw [e]
  generalize (BitVec.ofInt 64 x &&& BitVec.ofInt 64 7).toNat = n at h
  have : ∀ n : Fin 8, IntKind.i64.wrap (n.val : Int) = (n.val : Int) := by decide +kernel
  exact this ⟨n, h⟩
/-- The kinds' counts among the first i. -/
def kc (ks : List Int) (K : Int) (i : Nat) : Nat := (plc ks K i).length
theorem kc_yes {ks : List Int} {K : Int} {i : Nat} (h : kd ks i = K) : (kc ks K i : Int) + 1 = ((kc ks K (i + 1) : Nat) : Int) := by unfold kc; rw [← plc_yes h]; simp
theorem kc_no {ks : List Int} {K : Int} {i : Nat} (h : kd ks i ≠ K) : kc ks K (i + 1) = kc ks K i := by unfold kc; rw [plc_no h]
theorem kc_le (ks : List Int) (K : Int) (i : Nat) : kc ks K i ≤ i := plc_le ks K i
theorem int_at {w : World} {A : Option Addr} {n : Nat} {xs : List Int} (h : (Kd.int .i64).C w A n xs) (i : Nat) (hi : i < n) : ∃ ad, A = some ad ∧ w.cell? (ad.add i) = some (.int .i64 (xs.getD i 0)) := by
  obtain ⟨ad, cc, e, _, hKc, hcc⟩ := Kd.C_get h (0 : Int) (i : Int) (by omega) (by omega)
  obtain rfl : cc = [.int .i64 (xs.getD i 0)] := hKc
  have := hcc 0 _ rfl
  exact ⟨ad, e, by simpa [show (Kd.int .i64).sz = 1 from rfl] using this⟩
theorem St.begin {w wr w4 : World} {L : Nat → Nat} {gm gc : Nat} {A : Option Addr} {c : Nat} (low : ∀ k, k < w.heap.size → L k = 99) (hb : Below w.heap.size w wr) (lm : L gm = 0) (hm : wr.heap[gm]? = some (.cells (mcells (.slice A 40 c) (.slice none 0 0) (.slice none 0 0) (.slice none 0 0)) 69 (0, 0)))
    (hT : Kd.N k36 36 wr 0 (fun k => L k = 1) (.slice A 40 c) (TL 40)) (hg : gc = wr.heap.size) (hA : w4.heap[gc]? = some (.cells #[.int .i64 0, .int .i64 0, .int .i64 0, .int .i64 0] 86 (0, 0))) (hb4 : Below wr.heap.size wr w4) :
    St w w4 (fun k => if k = gc then 7 else L k) gm gc (.slice A 40 c) (.slice none 0 0) (.slice none 0 0) (.slice none 0 0) (.slice none 0 0) (.slice none 0 0) (TL 40) [] [] [] [] [] 0 0 0 0 :=
  ⟨fun k hk => by show (if k = gc then 7 else L k) = 99; rw [if_neg (by have := hb.size; omega)]; exact low k hk, below_step hb hb4, by show (if gm = gc then 7 else L gm) = 0; rw [if_neg (by have := blk_lt hm; omega)]; exact lm, blk_below hm hb4, by show (if gc = gc then 7 else L gc) = 7; rw [if_pos rfl], hA,
   Kd.N_mono (Kd.N_below (Kd.N_bound hT) hb4) (fun k hk => by show (if k = gc then 7 else L k) = 1; rw [if_neg (by have := hk.2; omega)]; exact hk.1), Kd.N_nil _ _ _ _ _, Kd.N_nil _ _ _ _ _, Kd.N_nil _ _ _ _ _, Kd.N_nil _ _ _ _ _, Kd.N_nil _ _ _ _ _⟩
theorem appFS (P : List Int) (i : Nat) : P ++ FS i ++ [30 + (i : Int)] = P ++ FS (i + 1) := by rw [List.append_assoc, FS_succ]
theorem appTS (P : List Int) (i : Nat) : P ++ TS i ++ [100 + (i : Int)] = P ++ TS (i + 1) := by rw [List.append_assoc, TS_succ]
theorem lenF (ks : List Int) (N i : Nat) : (plc ks 0 N ++ FS i).length = kc ks 0 N + i := by simp [kc, FS_len]
theorem lenT (ks : List Int) (N i : Nat) : (plc ks 3 N ++ TS i).length = kc ks 3 N + i := by simp [kc, TS_len]
def Rel1 (w : World) (gm n : Nat) (v6 : Value) (wr : World) : Prop := ∃ (i : Nat) (L : Nat → Nat) (A : Option Addr) (c : Nat), i + n = 40 ∧ v6 = .int .i64 i ∧ (∀ k, k < w.heap.size → L k = 99) ∧ Below w.heap.size w wr ∧ L gm = 0 ∧ wr.heap[gm]? = some (.cells (mcells (.slice A i c) (.slice none 0 0) (.slice none 0 0) (.slice none 0 0)) 69 (0, 0)) ∧ Kd.N k36 36 wr 0 (fun k => L k = 1) (.slice A i c) (TL i)
def Rel2 (w : World) (ks : List Int) (gm gc N n : Nat) (v7 v8 v10 : Value) (wr : World) : Prop := ∃ (i : Nat) (L : Nat → Nat) (vT vI vf vt : Value), i + n = N ∧ vf = v7 ∧ vt = v8 ∧ v10 = .int .i64 i ∧ St w wr L gm gc vT vI (.slice none 0 0) (.slice none 0 0) vf vt (TL 40) (FULL ks i) [] [] (plc ks 0 i) (plc ks 3 i) (kc ks 0 i) (kc ks 1 i) (kc ks 2 i) (kc ks 3 i)
def Rel3 (w : World) (ks : List Int) (gm gc N q n : Nat) (v7 v8 v12 : Value) (wr : World) : Prop := ∃ (i : Nat) (L : Nat → Nat) (vT vI vF vG vf vt : Value), i + n = q ∧ vf = v7 ∧ vt = v8 ∧ v12 = .int .i64 i ∧ St w wr L gm gc vT vI vF vG vf vt (TL 40) (FULL ks N) (FS i) (GS i) (plc ks 0 N ++ FS i) (plc ks 3 N ++ TS i) (kc ks 0 N) (kc ks 1 N) (kc ks 2 N) (kc ks 3 N)

end Go.Proofs.Ytmofdpkddimmlaa.EFty
