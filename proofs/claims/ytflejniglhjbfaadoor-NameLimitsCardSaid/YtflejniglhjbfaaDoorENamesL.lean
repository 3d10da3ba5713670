/-
  peloruslaw13.NameLimits.
-/
import Derived.Test.YtflejniglhjbfaaDoorENamesR
import Derived.Test.YtflejniglhjbfaaDoorWHand2
import Derived.Laws.MakeOwn
import Derived.Test.YtflejniglhjbfaaDoorENamesP
import Derived.Test.YtflejniglhjbfaaDoorENamesA
namespace Go.Proofs.YtflejniglhjbfaaDoor.ENames
open Go Go.RowKit Go.Lib Go.Proofs.YtflejniglhjbfaaDoor.F Go.Proofs.YtflejniglhjbfaaDoorW.Hand Go.Proofs.YtflejniglhjbfaaDoorW.PrintWords Go.Proofs.YtflejniglhjbfaaDoorW.PrintLast Go.Proofs.YtflejniglhjbfaaDoorW.PrintMore Go.Proofs.YtflejniglhjbfaaDoor.LebMath Go.Proofs.YtflejniglhjbfaaDoor.LebFns Go.Proofs.YtflejniglhjbfaaDoor.LebGets Go.Proofs.YtflejniglhjbfaaDoor.Pure13
set_option linter.unusedVariables false
set_option linter.unusedSimpArgs false
theorem conv_rep {W : World} {g n : Nat} (h : W.heap[g]? = some (.cells ((List.replicate n (120 : Int)).map (Value.int .u8)).toArray 5 (0, 0))) : (convert 36 9 (.slice (some ⟨g, 0, none⟩) n n)).run Tryd.prog W = .ok (.string (strOfNums (List.replicate n 120))) W := by
  have := conv_lit (zs := List.replicate n (120 : Int)) h rfl
  rwa [List.length_replicate] at this
theorem make8 (n : Nat) (hn : n ≤ 1000) (W : World) : (Instr.makeSlice 36 (.int .i64 (n : Int)) (.int .i64 (n : Int))).run Tryd.prog W = .ok (.slice (some ⟨W.heap.size, 0, none⟩) n n) (W.alloc (.cells ((List.replicate n (0 : Int)).map (Value.int .u8)).toArray 5 (0, 0))) := by
  obtain ⟨i0, hi, hzz⟩ := Option.map_eq_some_iff.1 (show (Tryd.prog.info? 5).map (fun i => (i.zero, i.size, i.bytes)) = some (some (Value.int .u8 0), 1, 1) by kernel_rfl)
  simp only [Prod.mk.injEq] at hzz
  obtain ⟨hz0, hz1, hz2⟩ := hzz
  have hr := run_make (P := Tryd.prog) W 36 5 i0 (.int .u8 0) Tryd.underlying36 hi hz0 .i64 .i64 (n : Int) (n : Int) (by omega) (by omega) (by rw [hz2]; omega) (by omega)
  simp only [Int.toNat_natCast] at hr
  rw [hr, hz1]
  congr 3
  apply Array.ext
  · simp [madeCells]
  · intro j h1 h2
    simp [madeCells, Value.cells, Nat.mod_one]
theorem set_rep (n i : Nat) (h : i < n) : ((List.replicate i (120 : Int) ++ List.replicate (n - i) 0).map (Value.int .u8)).toArray.setIfInBounds i (.int .u8 120) = ((List.replicate (i + 1) (120 : Int) ++ List.replicate (n - (i + 1)) 0).map (Value.int .u8)).toArray := by
  obtain ⟨d, rfl⟩ : ∃ d, n = i + 1 + d := ⟨n - (i + 1), by omega⟩
  rw [show i + 1 + d - i = d + 1 by omega, show i + 1 + d - (i + 1) = d by omega]
  simp only [List.setIfInBounds_toArray, List.map_append, List.map_replicate]
  congr 1
  rw [List.set_append_right _ _ (by simp)]
  simp only [List.length_replicate, Nat.sub_self]
  rw [show List.replicate (d + 1) (Value.int .u8 0) = Value.int .u8 0 :: List.replicate d (Value.int .u8 0) from rfl, List.set_cons_zero, List.replicate_succ', List.append_assoc]
  rfl
theorem rep_list (n : Nat) : (strOfNums (List.replicate n 120)).data.toList = List.replicate n (120 : UInt8) := by
  simp [strOfNums]
theorem valid_rep : ∀ n : Nat, validD (List.replicate n (120 : UInt8)) = true
  | 0 => rfl
  | n + 1 => by rw [List.replicate_succ, validD_cons _ _ (by decide)]; exact valid_rep n
theorem lebOf_num (n : Nat) (h : n < 128) : lebOf (n : Int) = strOfNums [(n : Int)] := by
  unfold lebOf
  have e : (n : Int) % 18446744073709551616 = n := by omega
  have e2 : (n : Int) % 256 = n := by omega
  rw [e, U, if_neg (by omega), e2]
theorem rep_size (n : Nat) : (strOfNums (List.replicate n 120)).size = n := by rw [strOfNums_size]; simp
theorem put_rep (n : Nat) (hn : n < 68) : nput (strOfNums (List.replicate n 120)) = if n ≤ 64 then (strOfNums [(n : Int)] ++ strOfNums (List.replicate n 120), 0) else (⟨#[]⟩, 1301) := by
  unfold nput
  rw [rep_size, rep_list, valid_rep, lebOf_num n (by omega)]
  by_cases h : n ≤ 64
  · rw [if_neg (by omega), if_pos rfl, if_pos h]
  · rw [if_pos (by omega), if_neg h]
theorem get_rep (n : Nat) (hn : n < 68) : nget (strOfNums [(n : Int)] ++ strOfNums (List.replicate n 120)) 0 = if n ≤ 64 then (strOfNums (List.replicate n 120), 1 + (n : Int), 0) else (⟨#[]⟩, 0, 1301) := by
  have s1 : (strOfNums [(n : Int)]).size = 1 := by rw [strOfNums_size]; rfl
  have hsz : (strOfNums [(n : Int)] ++ strOfNums (List.replicate n 120)).size = n + 1 := by rw [ByteArray.size_append, s1, rep_size]; omega
  have hl : (strOfNums [(n : Int)] ++ strOfNums (List.replicate n 120)).data.toList = UInt8.ofNat n :: List.replicate n 120 := by
    rw [ByteArray.data_append, Array.toList_append, rep_list]
    simp [strOfNums, Nat.toUInt8]
  have hb : bt (strOfNums [(n : Int)] ++ strOfNums (List.replicate n 120)) ((0 : Nat) : Int) = n := by
    have := bt_drop (strOfNums [(n : Int)] ++ strOfNums (List.replicate n 120)) 0 0
    rw [hl] at this
    rw [this]
    simp
    omega
  have hG := G_one (strOfNums [(n : Int)] ++ strOfNums (List.replicate n 120)) 0 (by omega) (by omega) (by omega)
  have hG2 : G (strOfNums [(n : Int)] ++ strOfNums (List.replicate n 120)) 0 32 = ((n : Int), ((0 + 1 : Nat) : Int), 0) := by have h := hG; rw [hb] at h; exact h
  have hex : (strOfNums [(n : Int)] ++ strOfNums (List.replicate n 120)).extract 1 (1 + n) = strOfNums (List.replicate n 120) := by
    apply ByteArray.ext
    apply Array.ext'
    rw [rep_list, ByteArray.data_extract, Array.toList_extract, hl, List.extract_eq_take_drop]
    show List.take (1 + n - 1) (List.replicate n 120) = _
    rw [List.take_of_length_le (by simp)]
  unfold nget
  rw [hG2, hsz]
  have c0 : ¬ ((0 : Int) ≠ 0 ∨ (n : Int) > ((n + 1 : Nat) : Int) - ((0 + 1 : Nat) : Int)) := by omega
  rw [if_neg c0]
  by_cases h : n ≤ 64
  · have c1 : ¬ ((n : Int) > 64) := by omega
    rw [if_neg c1, if_pos h]
    simp only [Int.toNat_natCast, Nat.zero_add, hex, rep_list, valid_rep, if_true]
    rfl
  · have c1 : ((n : Int) > 64) := by omega
    rw [if_pos c1, if_neg h]
theorem and7 (l : Int) : Go.bits .and .i64 l 7 = l % 8 := by
  have := and_mask l 3 (by decide) 7 (by decide)
  simpa using this
theorem andi1 (l : Int) : Go.bits .and .i64 l 1 = l % 2 := by
  have := and_mask l 1 (by decide) 1 (by decide)
  simpa using this
def repC (n i : Nat) : Array Value := ((List.replicate i (120 : Int) ++ List.replicate (n - i) 0).map (Value.int .u8)).toArray
set_option maxHeartbeats 4000000 in
set_option maxRecDepth 100000 in
theorem limits_0_fine (many cut : Int) (n : Nat) (PS GS : ByteArray) (GP : Int) (w : World) (e1 : 60 + Go.bits .and .i64 many 7 = (n : Int)) (hn0 : 60 ≤ n) (hn : n < 68) (hf : decide ((n : Int) ≤ 64) = true) (hf2 : (n : Int) ≤ 64) (hc : Go.bits .and .i64 cut 1 = 0) (P0 : nput (strOfNums (List.replicate n 120)) = (PS, 0)) (G0 : nget (strOfNums [(n : Int)] ++ strOfNums (List.replicate n 120)) 0 = (GS, GP, 0)) (hT : Tabs w) : Calls Tryd.prog 6 #[.int .i64 many, .int .i64 cut] w fun e w' => e = .returned (.bool true) ∧ Below w.heap.size w w' := by
  have e14 : Aside0 (∀ W, Below w.heap.size w W → Calls Tryd.prog 14 #[] W fun e w' => e = .returned (.bool true) ∧ Below w.heap.size w w') := ⟨fun W hb => (awake_calls W (tabs_below hT hb)).mono fun _ _ h => ⟨h.1, below_step hb h.2⟩⟩
  have P := Aside0.mk P0
  have G := Aside0.mk G0
  have P3 : Aside0 (nput (⟨#[97, 98]⟩ ++ (⟨#[226, 130, 172]⟩ : ByteArray).extract 0 1) = (⟨#[]⟩, 1300)) := ⟨by kernel_rfl⟩
  have M2 : Aside0 (nmay (⟨#[97, 98]⟩ ++ (⟨#[226, 130, 172]⟩ : ByteArray).extract 0 1) = false) := ⟨by kernel_rfl⟩
  have M1 : Aside0 (nmay (⟨#[97, 98]⟩ ++ ⟨#[226, 130, 172]⟩) = true) := ⟨by kernel_rfl⟩
  have SZ := Aside0.mk (show (strOfNums (List.replicate n 120)).size ≤ 140737488355328 by rw [strOfNums_size]; simp; omega)
  have hz : (strOfNums (List.replicate n 120)).size = n := by rw [strOfNums_size]; simp
  have hz1 : (strOfNums [(n : Int)]).size = 1 := by rw [strOfNums_size]; rfl
  have GZ := Aside0.mk (show (strOfNums [(n : Int)] ++ strOfNums (List.replicate n 120)).size ≤ 140737488355328 by rw [ByteArray.size_append, hz, hz1]; omega)
  have HTw := Aside0.mk hT
  have hy := Aside0.mk (Below.refl w.heap.size w)
  have hmk := fun W => make8 n (by omega) W
  have hsum : (strOfNums [(n : Int)]).size + (strOfNums (List.replicate n 120)).size ≤ 9223372036854775807 := by omega
  have HN := Aside0.mk hn
  have a0 : (0 : Int) ≤ (n : Int) := by omega
  have a1 : (n : Int) ≤ 1000 := by omega
  clear hT P0 G0
  go_enter Tryd.func6, Tryd.ntmps6
  go_wp2_with (first
    | (go_at_call 14; (with_reducible refine (e14.out _ hy.out).mono ?_); rintro e w' ⟨rfl, hb⟩; clear hy; have hy := Aside0.mk hb; clear hb)
    | ((with_reducible refine gate_dst (N := 24) rfl ?_); refine lit_event ?hg (N := 24) ?hd (cs := ((List.replicate n (0 : Int)).map (Value.int .u8)).toArray) (t := 5) (n := n) ?hr ?_; (case hd => rfl); (case hg => rfl); (case hr => first | (go_simp; done) | (go_simp; rfl)); intro g hg_ w1 hA hb; have hb2 := below_step hy.out hb; have GE := Aside0.mk (show w.heap.size ≤ g by rw [hg_]; exact hy.out.size); clear hy; have hy := Aside0.mk hb2; have A := Aside0.mk hA; clear hb hb2 hA hg_ hmk))
  go_loopg [7] n (fun m v7 wr => ∃ i : Nat, i + m = n ∧ v7 = .int .i64 i ∧ wr.heap[g]? = some (.cells (repC n i) 5 (0, 0)) ∧ Below w.heap.size w wr)
  case atStart => exact ⟨0, by omega, rfl, by simpa [repC] using A.out, hy.out⟩
  case round =>
    obtain ⟨i, hi, rfl, hA, hB⟩ := hrel
    clear A hy
    have I0 := Aside0.mk hi
    have A := Aside0.mk hA
    have hy := Aside0.mk hB
    clear hi hA hB
    by_cases hlt : i < n
    · have dl : decide (i < n) = true := decide_eq_true hlt
      have LT := Aside0.mk hlt
      go_wp2_with ((with_reducible refine gate_store (p := 32) rfl ?_); refine storeCell_event (g := g) (j := i) (x := .int .u8 120) rfl rfl rfl rfl rfl A.out (by have := LT.out; simp [repC]; omega) (by kernel_rfl) rfl ?_; intro w2 hA hb ho hs; have A2 := Aside0.mk hA; have hy2 := Aside0.mk (hb w.heap.size w GE.out hy.out); clear hA hb ho hs)
      go_roundg (n - (i + 1))
      case measure => have := I0.out; have := LT.out; omega
      case rel => exact ⟨i + 1, by have := LT.out; omega, by go_num, (by have h := A2.out; rw [show (repC n i).setIfInBounds i (.int .u8 120) = repC n (i + 1) from set_rep n i LT.out] at h; exact h), hy2.out⟩
    · obtain rfl : i = n := by have := I0.out; omega
      have dl : decide (i < i) = false := by simp
      have CV := Aside0.mk (fun W (hb : Below wr.heap.size wr W) => conv_rep (n := i) (blk_below (by have h := A.out; simpa [repC] using h) hb))
      have cv := CV.out _ (Below.refl _ _)
      have HT := Aside0.mk (tabs_below HTw.out hy.out)
      have HB := Aside0.mk hy.out
      clear hy hlt I0 HTw A dl
      have dl : decide ((i : Int) < (i : Int)) = false := by simp
      have hy := Aside0.mk (Below.refl wr.heap.size wr)
      go_wp2_with (first
        | (go_at_call 7; (with_reducible refine (put_is (w := wr) P.out SZ.out HT.out hy.out).mono ?_); rintro e w' ⟨rfl, hb⟩; clear hy; have hy := Aside0.mk hb; have cv := CV.out _ hb; clear hb)
        | (go_at_call 7; (with_reducible refine (put_is (w := wr) P3.out (by decide) HT.out hy.out).mono ?_); rintro e w' ⟨rfl, hb⟩; clear hy; have hy := Aside0.mk hb; have cv := CV.out _ hb; clear hb)
        | (go_at_call 9; (with_reducible refine (get_is (w := wr) G.out GZ.out HT.out hy.out).mono ?_); rintro e w' ⟨rfl, hb⟩; clear hy; have hy := Aside0.mk hb; have cv := CV.out _ hb; clear hb)
        | (go_at_call 11; (with_reducible refine (may_is (w := wr) M1.out (by decide) HT.out hy.out).mono ?_); rintro e w' ⟨rfl, hb⟩; clear hy; have hy := Aside0.mk hb; have cv := CV.out _ hb; clear hb)
        | (go_at_call 11; (with_reducible refine (may_is (w := wr) M2.out (by decide) HT.out hy.out).mono ?_); rintro e w' ⟨rfl, hb⟩; clear hy; have hy := Aside0.mk hb; have cv := CV.out _ hb; clear hb)
        | (go_at_call 13; (with_reducible refine (num_is (w := wr) _ hy.out).mono ?_); rintro e w' ⟨rfl, hb⟩; clear hy; have hy := Aside0.mk hb; have cv := CV.out _ hb; clear hb)
        | ((with_reducible refine gate_dst (N := 53) rfl ?_); refine lit_event ?hg (N := 53) ?hd (cs := #[.int .u8 (i : Int)]) (t := 5) (n := 1) ?hr ?_; (case hd => rfl); (case hg => rfl); (case hr => first | (go_simp; done) | (go_simp; rfl)); intro g2 hg_ w2 hA hb; have g2C : (convert 36 9 (.slice (some ⟨g2, 0, none⟩) 1 1)).run Tryd.prog w2 = .ok (.string (strOfNums [(i : Int)])) w2 := conv_lit (zs := [(i : Int)]) hA rfl; have hb2 := below_step hy.out hb; clear hy; have hy := Aside0.mk hb2; have cv := CV.out _ hb2; clear hb hb2 hA hg_))
      go_ret
      exact ⟨by first | rfl | (simp; done), below_step HB.out hy.out⟩
set_option maxHeartbeats 4000000 in
set_option maxRecDepth 100000 in
theorem limits_0_not (many cut : Int) (n : Nat) (PS GS : ByteArray) (GP : Int) (w : World) (e1 : 60 + Go.bits .and .i64 many 7 = (n : Int)) (hn0 : 60 ≤ n) (hn : n < 68) (hf : decide ((n : Int) ≤ 64) = false) (hf2 : 64 < (n : Int)) (hc : Go.bits .and .i64 cut 1 = 0) (P0 : nput (strOfNums (List.replicate n 120)) = (PS, 1301)) (G0 : nget (strOfNums [(n : Int)] ++ strOfNums (List.replicate n 120)) 0 = (GS, GP, 1301)) (PE : PS = ⟨#[]⟩) (hT : Tabs w) : Calls Tryd.prog 6 #[.int .i64 many, .int .i64 cut] w fun e w' => e = .returned (.bool true) ∧ Below w.heap.size w w' := by
  subst PE
  have e14 : Aside0 (∀ W, Below w.heap.size w W → Calls Tryd.prog 14 #[] W fun e w' => e = .returned (.bool true) ∧ Below w.heap.size w w') := ⟨fun W hb => (awake_calls W (tabs_below hT hb)).mono fun _ _ h => ⟨h.1, below_step hb h.2⟩⟩
  have P := Aside0.mk P0
  have G := Aside0.mk G0
  have P3 : Aside0 (nput (⟨#[97, 98]⟩ ++ (⟨#[226, 130, 172]⟩ : ByteArray).extract 0 1) = (⟨#[]⟩, 1300)) := ⟨by kernel_rfl⟩
  have M2 : Aside0 (nmay (⟨#[97, 98]⟩ ++ (⟨#[226, 130, 172]⟩ : ByteArray).extract 0 1) = false) := ⟨by kernel_rfl⟩
  have M1 : Aside0 (nmay (⟨#[97, 98]⟩ ++ ⟨#[226, 130, 172]⟩) = true) := ⟨by kernel_rfl⟩
  have SZ := Aside0.mk (show (strOfNums (List.replicate n 120)).size ≤ 140737488355328 by rw [strOfNums_size]; simp; omega)
  have hz : (strOfNums (List.replicate n 120)).size = n := by rw [strOfNums_size]; simp
  have hz1 : (strOfNums [(n : Int)]).size = 1 := by rw [strOfNums_size]; rfl
  have GZ := Aside0.mk (show (strOfNums [(n : Int)] ++ strOfNums (List.replicate n 120)).size ≤ 140737488355328 by rw [ByteArray.size_append, hz, hz1]; omega)
  have HTw := Aside0.mk hT
  have hy := Aside0.mk (Below.refl w.heap.size w)
  have hmk := fun W => make8 n (by omega) W
  have hsum : (strOfNums [(n : Int)]).size + (strOfNums (List.replicate n 120)).size ≤ 9223372036854775807 := by omega
  have HN := Aside0.mk hn
  have a0 : (0 : Int) ≤ (n : Int) := by omega
  have a1 : (n : Int) ≤ 1000 := by omega
  clear hT P0 G0
  go_enter Tryd.func6, Tryd.ntmps6
  go_wp2_with (first
    | (go_at_call 14; (with_reducible refine (e14.out _ hy.out).mono ?_); rintro e w' ⟨rfl, hb⟩; clear hy; have hy := Aside0.mk hb; clear hb)
    | ((with_reducible refine gate_dst (N := 24) rfl ?_); refine lit_event ?hg (N := 24) ?hd (cs := ((List.replicate n (0 : Int)).map (Value.int .u8)).toArray) (t := 5) (n := n) ?hr ?_; (case hd => rfl); (case hg => rfl); (case hr => first | (go_simp; done) | (go_simp; rfl)); intro g hg_ w1 hA hb; have hb2 := below_step hy.out hb; have GE := Aside0.mk (show w.heap.size ≤ g by rw [hg_]; exact hy.out.size); clear hy; have hy := Aside0.mk hb2; have A := Aside0.mk hA; clear hb hb2 hA hg_ hmk))
  go_loopg [7] n (fun m v7 wr => ∃ i : Nat, i + m = n ∧ v7 = .int .i64 i ∧ wr.heap[g]? = some (.cells (repC n i) 5 (0, 0)) ∧ Below w.heap.size w wr)
  case atStart => exact ⟨0, by omega, rfl, by simpa [repC] using A.out, hy.out⟩
  case round =>
    obtain ⟨i, hi, rfl, hA, hB⟩ := hrel
    clear A hy
    have I0 := Aside0.mk hi
    have A := Aside0.mk hA
    have hy := Aside0.mk hB
    clear hi hA hB
    by_cases hlt : i < n
    · have dl : decide (i < n) = true := decide_eq_true hlt
      have LT := Aside0.mk hlt
      go_wp2_with ((with_reducible refine gate_store (p := 32) rfl ?_); refine storeCell_event (g := g) (j := i) (x := .int .u8 120) rfl rfl rfl rfl rfl A.out (by have := LT.out; simp [repC]; omega) (by kernel_rfl) rfl ?_; intro w2 hA hb ho hs; have A2 := Aside0.mk hA; have hy2 := Aside0.mk (hb w.heap.size w GE.out hy.out); clear hA hb ho hs)
      go_roundg (n - (i + 1))
      case measure => have := I0.out; have := LT.out; omega
      case rel => exact ⟨i + 1, by have := LT.out; omega, by go_num, (by have h := A2.out; rw [show (repC n i).setIfInBounds i (.int .u8 120) = repC n (i + 1) from set_rep n i LT.out] at h; exact h), hy2.out⟩
    · obtain rfl : i = n := by have := I0.out; omega
      have dl : decide (i < i) = false := by simp
      have CV := Aside0.mk (fun W (hb : Below wr.heap.size wr W) => conv_rep (n := i) (blk_below (by have h := A.out; simpa [repC] using h) hb))
      have cv := CV.out _ (Below.refl _ _)
      have HT := Aside0.mk (tabs_below HTw.out hy.out)
      have HB := Aside0.mk hy.out
      clear hy hlt I0 HTw A dl
      have dl : decide ((i : Int) < (i : Int)) = false := by simp
      have hy := Aside0.mk (Below.refl wr.heap.size wr)
      go_wp2_with (first
        | (go_at_call 7; (with_reducible refine (put_is (w := wr) P.out SZ.out HT.out hy.out).mono ?_); rintro e w' ⟨rfl, hb⟩; clear hy; have hy := Aside0.mk hb; have cv := CV.out _ hb; clear hb)
        | (go_at_call 7; (with_reducible refine (put_is (w := wr) P3.out (by decide) HT.out hy.out).mono ?_); rintro e w' ⟨rfl, hb⟩; clear hy; have hy := Aside0.mk hb; have cv := CV.out _ hb; clear hb)
        | (go_at_call 9; (with_reducible refine (get_is (w := wr) G.out GZ.out HT.out hy.out).mono ?_); rintro e w' ⟨rfl, hb⟩; clear hy; have hy := Aside0.mk hb; have cv := CV.out _ hb; clear hb)
        | (go_at_call 11; (with_reducible refine (may_is (w := wr) M1.out (by decide) HT.out hy.out).mono ?_); rintro e w' ⟨rfl, hb⟩; clear hy; have hy := Aside0.mk hb; have cv := CV.out _ hb; clear hb)
        | (go_at_call 11; (with_reducible refine (may_is (w := wr) M2.out (by decide) HT.out hy.out).mono ?_); rintro e w' ⟨rfl, hb⟩; clear hy; have hy := Aside0.mk hb; have cv := CV.out _ hb; clear hb)
        | (go_at_call 13; (with_reducible refine (num_is (w := wr) _ hy.out).mono ?_); rintro e w' ⟨rfl, hb⟩; clear hy; have hy := Aside0.mk hb; have cv := CV.out _ hb; clear hb)
        | ((with_reducible refine gate_dst (N := 53) rfl ?_); refine lit_event ?hg (N := 53) ?hd (cs := #[.int .u8 (i : Int)]) (t := 5) (n := 1) ?hr ?_; (case hd => rfl); (case hg => rfl); (case hr => first | (go_simp; done) | (go_simp; rfl)); intro g2 hg_ w2 hA hb; have g2C : (convert 36 9 (.slice (some ⟨g2, 0, none⟩) 1 1)).run Tryd.prog w2 = .ok (.string (strOfNums [(i : Int)])) w2 := conv_lit (zs := [(i : Int)]) hA rfl; have hb2 := below_step hy.out hb; clear hy; have hy := Aside0.mk hb2; have cv := CV.out _ hb2; clear hb hb2 hA hg_))
      go_ret
      exact ⟨by first | rfl | (simp; done), below_step HB.out hy.out⟩
set_option maxHeartbeats 4000000 in
set_option maxRecDepth 100000 in
theorem limits_1_fine (many cut : Int) (n : Nat) (PS GS : ByteArray) (GP : Int) (w : World) (e1 : 60 + Go.bits .and .i64 many 7 = (n : Int)) (hn0 : 60 ≤ n) (hn : n < 68) (hf : decide ((n : Int) ≤ 64) = true) (hf2 : (n : Int) ≤ 64) (hc : Go.bits .and .i64 cut 1 = 1) (P0 : nput (strOfNums (List.replicate n 120)) = (PS, 0)) (G0 : nget (strOfNums [(n : Int)] ++ strOfNums (List.replicate n 120)) 0 = (GS, GP, 0)) (hT : Tabs w) : Calls Tryd.prog 6 #[.int .i64 many, .int .i64 cut] w fun e w' => e = .returned (.bool true) ∧ Below w.heap.size w w' := by
  have e14 : Aside0 (∀ W, Below w.heap.size w W → Calls Tryd.prog 14 #[] W fun e w' => e = .returned (.bool true) ∧ Below w.heap.size w w') := ⟨fun W hb => (awake_calls W (tabs_below hT hb)).mono fun _ _ h => ⟨h.1, below_step hb h.2⟩⟩
  have P := Aside0.mk P0
  have G := Aside0.mk G0
  have P3 : Aside0 (nput (⟨#[97, 98]⟩ ++ (⟨#[226, 130, 172]⟩ : ByteArray).extract 0 2) = (⟨#[]⟩, 1300)) := ⟨by kernel_rfl⟩
  have M2 : Aside0 (nmay (⟨#[97, 98]⟩ ++ (⟨#[226, 130, 172]⟩ : ByteArray).extract 0 2) = false) := ⟨by kernel_rfl⟩
  have M1 : Aside0 (nmay (⟨#[97, 98]⟩ ++ ⟨#[226, 130, 172]⟩) = true) := ⟨by kernel_rfl⟩
  have SZ := Aside0.mk (show (strOfNums (List.replicate n 120)).size ≤ 140737488355328 by rw [strOfNums_size]; simp; omega)
  have hz : (strOfNums (List.replicate n 120)).size = n := by rw [strOfNums_size]; simp
  have hz1 : (strOfNums [(n : Int)]).size = 1 := by rw [strOfNums_size]; rfl
  have GZ := Aside0.mk (show (strOfNums [(n : Int)] ++ strOfNums (List.replicate n 120)).size ≤ 140737488355328 by rw [ByteArray.size_append, hz, hz1]; omega)
  have HTw := Aside0.mk hT
  have hy := Aside0.mk (Below.refl w.heap.size w)
  have hmk := fun W => make8 n (by omega) W
  have hsum : (strOfNums [(n : Int)]).size + (strOfNums (List.replicate n 120)).size ≤ 9223372036854775807 := by omega
  have HN := Aside0.mk hn
  have a0 : (0 : Int) ≤ (n : Int) := by omega
  have a1 : (n : Int) ≤ 1000 := by omega
  clear hT P0 G0
  go_enter Tryd.func6, Tryd.ntmps6
  go_wp2_with (first
    | (go_at_call 14; (with_reducible refine (e14.out _ hy.out).mono ?_); rintro e w' ⟨rfl, hb⟩; clear hy; have hy := Aside0.mk hb; clear hb)
    | ((with_reducible refine gate_dst (N := 24) rfl ?_); refine lit_event ?hg (N := 24) ?hd (cs := ((List.replicate n (0 : Int)).map (Value.int .u8)).toArray) (t := 5) (n := n) ?hr ?_; (case hd => rfl); (case hg => rfl); (case hr => first | (go_simp; done) | (go_simp; rfl)); intro g hg_ w1 hA hb; have hb2 := below_step hy.out hb; have GE := Aside0.mk (show w.heap.size ≤ g by rw [hg_]; exact hy.out.size); clear hy; have hy := Aside0.mk hb2; have A := Aside0.mk hA; clear hb hb2 hA hg_ hmk))
  go_loopg [7] n (fun m v7 wr => ∃ i : Nat, i + m = n ∧ v7 = .int .i64 i ∧ wr.heap[g]? = some (.cells (repC n i) 5 (0, 0)) ∧ Below w.heap.size w wr)
  case atStart => exact ⟨0, by omega, rfl, by simpa [repC] using A.out, hy.out⟩
  case round =>
    obtain ⟨i, hi, rfl, hA, hB⟩ := hrel
    clear A hy
    have I0 := Aside0.mk hi
    have A := Aside0.mk hA
    have hy := Aside0.mk hB
    clear hi hA hB
    by_cases hlt : i < n
    · have dl : decide (i < n) = true := decide_eq_true hlt
      have LT := Aside0.mk hlt
      go_wp2_with ((with_reducible refine gate_store (p := 32) rfl ?_); refine storeCell_event (g := g) (j := i) (x := .int .u8 120) rfl rfl rfl rfl rfl A.out (by have := LT.out; simp [repC]; omega) (by kernel_rfl) rfl ?_; intro w2 hA hb ho hs; have A2 := Aside0.mk hA; have hy2 := Aside0.mk (hb w.heap.size w GE.out hy.out); clear hA hb ho hs)
      go_roundg (n - (i + 1))
      case measure => have := I0.out; have := LT.out; omega
      case rel => exact ⟨i + 1, by have := LT.out; omega, by go_num, (by have h := A2.out; rw [show (repC n i).setIfInBounds i (.int .u8 120) = repC n (i + 1) from set_rep n i LT.out] at h; exact h), hy2.out⟩
    · obtain rfl : i = n := by have := I0.out; omega
      have dl : decide (i < i) = false := by simp
      have CV := Aside0.mk (fun W (hb : Below wr.heap.size wr W) => conv_rep (n := i) (blk_below (by have h := A.out; simpa [repC] using h) hb))
      have cv := CV.out _ (Below.refl _ _)
      have HT := Aside0.mk (tabs_below HTw.out hy.out)
      have HB := Aside0.mk hy.out
      clear hy hlt I0 HTw A dl
      have dl : decide ((i : Int) < (i : Int)) = false := by simp
      have hy := Aside0.mk (Below.refl wr.heap.size wr)
      go_wp2_with (first
        | (go_at_call 7; (with_reducible refine (put_is (w := wr) P.out SZ.out HT.out hy.out).mono ?_); rintro e w' ⟨rfl, hb⟩; clear hy; have hy := Aside0.mk hb; have cv := CV.out _ hb; clear hb)
        | (go_at_call 7; (with_reducible refine (put_is (w := wr) P3.out (by decide) HT.out hy.out).mono ?_); rintro e w' ⟨rfl, hb⟩; clear hy; have hy := Aside0.mk hb; have cv := CV.out _ hb; clear hb)
        | (go_at_call 9; (with_reducible refine (get_is (w := wr) G.out GZ.out HT.out hy.out).mono ?_); rintro e w' ⟨rfl, hb⟩; clear hy; have hy := Aside0.mk hb; have cv := CV.out _ hb; clear hb)
        | (go_at_call 11; (with_reducible refine (may_is (w := wr) M1.out (by decide) HT.out hy.out).mono ?_); rintro e w' ⟨rfl, hb⟩; clear hy; have hy := Aside0.mk hb; have cv := CV.out _ hb; clear hb)
        | (go_at_call 11; (with_reducible refine (may_is (w := wr) M2.out (by decide) HT.out hy.out).mono ?_); rintro e w' ⟨rfl, hb⟩; clear hy; have hy := Aside0.mk hb; have cv := CV.out _ hb; clear hb)
        | (go_at_call 13; (with_reducible refine (num_is (w := wr) _ hy.out).mono ?_); rintro e w' ⟨rfl, hb⟩; clear hy; have hy := Aside0.mk hb; have cv := CV.out _ hb; clear hb)
        | ((with_reducible refine gate_dst (N := 53) rfl ?_); refine lit_event ?hg (N := 53) ?hd (cs := #[.int .u8 (i : Int)]) (t := 5) (n := 1) ?hr ?_; (case hd => rfl); (case hg => rfl); (case hr => first | (go_simp; done) | (go_simp; rfl)); intro g2 hg_ w2 hA hb; have g2C : (convert 36 9 (.slice (some ⟨g2, 0, none⟩) 1 1)).run Tryd.prog w2 = .ok (.string (strOfNums [(i : Int)])) w2 := conv_lit (zs := [(i : Int)]) hA rfl; have hb2 := below_step hy.out hb; clear hy; have hy := Aside0.mk hb2; have cv := CV.out _ hb2; clear hb hb2 hA hg_))
      go_ret
      exact ⟨by first | rfl | (simp; done), below_step HB.out hy.out⟩
set_option maxHeartbeats 4000000 in
set_option maxRecDepth 100000 in
theorem limits_1_not (many cut : Int) (n : Nat) (PS GS : ByteArray) (GP : Int) (w : World) (e1 : 60 + Go.bits .and .i64 many 7 = (n : Int)) (hn0 : 60 ≤ n) (hn : n < 68) (hf : decide ((n : Int) ≤ 64) = false) (hf2 : 64 < (n : Int)) (hc : Go.bits .and .i64 cut 1 = 1) (P0 : nput (strOfNums (List.replicate n 120)) = (PS, 1301)) (G0 : nget (strOfNums [(n : Int)] ++ strOfNums (List.replicate n 120)) 0 = (GS, GP, 1301)) (PE : PS = ⟨#[]⟩) (hT : Tabs w) : Calls Tryd.prog 6 #[.int .i64 many, .int .i64 cut] w fun e w' => e = .returned (.bool true) ∧ Below w.heap.size w w' := by
  subst PE
  have e14 : Aside0 (∀ W, Below w.heap.size w W → Calls Tryd.prog 14 #[] W fun e w' => e = .returned (.bool true) ∧ Below w.heap.size w w') := ⟨fun W hb => (awake_calls W (tabs_below hT hb)).mono fun _ _ h => ⟨h.1, below_step hb h.2⟩⟩
  have P := Aside0.mk P0
  have G := Aside0.mk G0
  have P3 : Aside0 (nput (⟨#[97, 98]⟩ ++ (⟨#[226, 130, 172]⟩ : ByteArray).extract 0 2) = (⟨#[]⟩, 1300)) := ⟨by kernel_rfl⟩
  have M2 : Aside0 (nmay (⟨#[97, 98]⟩ ++ (⟨#[226, 130, 172]⟩ : ByteArray).extract 0 2) = false) := ⟨by kernel_rfl⟩
  have M1 : Aside0 (nmay (⟨#[97, 98]⟩ ++ ⟨#[226, 130, 172]⟩) = true) := ⟨by kernel_rfl⟩
  have SZ := Aside0.mk (show (strOfNums (List.replicate n 120)).size ≤ 140737488355328 by rw [strOfNums_size]; simp; omega)
  have hz : (strOfNums (List.replicate n 120)).size = n := by rw [strOfNums_size]; simp
  have hz1 : (strOfNums [(n : Int)]).size = 1 := by rw [strOfNums_size]; rfl
  have GZ := Aside0.mk (show (strOfNums [(n : Int)] ++ strOfNums (List.replicate n 120)).size ≤ 140737488355328 by rw [ByteArray.size_append, hz, hz1]; omega)
  have HTw := Aside0.mk hT
  have hy := Aside0.mk (Below.refl w.heap.size w)
  have hmk := fun W => make8 n (by omega) W
  have hsum : (strOfNums [(n : Int)]).size + (strOfNums (List.replicate n 120)).size ≤ 9223372036854775807 := by omega
  have HN := Aside0.mk hn
  have a0 : (0 : Int) ≤ (n : Int) := by omega
  have a1 : (n : Int) ≤ 1000 := by omega
  clear hT P0 G0
  go_enter Tryd.func6, Tryd.ntmps6
  go_wp2_with (first
    | (go_at_call 14; (with_reducible refine (e14.out _ hy.out).mono ?_); rintro e w' ⟨rfl, hb⟩; clear hy; have hy := Aside0.mk hb; clear hb)
    | ((with_reducible refine gate_dst (N := 24) rfl ?_); refine lit_event ?hg (N := 24) ?hd (cs := ((List.replicate n (0 : Int)).map (Value.int .u8)).toArray) (t := 5) (n := n) ?hr ?_; (case hd => rfl); (case hg => rfl); (case hr => first | (go_simp; done) | (go_simp; rfl)); intro g hg_ w1 hA hb; have hb2 := below_step hy.out hb; have GE := Aside0.mk (show w.heap.size ≤ g by rw [hg_]; exact hy.out.size); clear hy; have hy := Aside0.mk hb2; have A := Aside0.mk hA; clear hb hb2 hA hg_ hmk))
  go_loopg [7] n (fun m v7 wr => ∃ i : Nat, i + m = n ∧ v7 = .int .i64 i ∧ wr.heap[g]? = some (.cells (repC n i) 5 (0, 0)) ∧ Below w.heap.size w wr)
  case atStart => exact ⟨0, by omega, rfl, by simpa [repC] using A.out, hy.out⟩
  case round =>
    obtain ⟨i, hi, rfl, hA, hB⟩ := hrel
    clear A hy
    have I0 := Aside0.mk hi
    have A := Aside0.mk hA
    have hy := Aside0.mk hB
    clear hi hA hB
    by_cases hlt : i < n
    · have dl : decide (i < n) = true := decide_eq_true hlt
      have LT := Aside0.mk hlt
      go_wp2_with ((with_reducible refine gate_store (p := 32) rfl ?_); refine storeCell_event (g := g) (j := i) (x := .int .u8 120) rfl rfl rfl rfl rfl A.out (by have := LT.out; simp [repC]; omega) (by kernel_rfl) rfl ?_; intro w2 hA hb ho hs; have A2 := Aside0.mk hA; have hy2 := Aside0.mk (hb w.heap.size w GE.out hy.out); clear hA hb ho hs)
      go_roundg (n - (i + 1))
      case measure => have := I0.out; have := LT.out; omega
      case rel => exact ⟨i + 1, by have := LT.out; omega, by go_num, (by have h := A2.out; rw [show (repC n i).setIfInBounds i (.int .u8 120) = repC n (i + 1) from set_rep n i LT.out] at h; exact h), hy2.out⟩
    · obtain rfl : i = n := by have := I0.out; omega
      have dl : decide (i < i) = false := by simp
      have CV := Aside0.mk (fun W (hb : Below wr.heap.size wr W) => conv_rep (n := i) (blk_below (by have h := A.out; simpa [repC] using h) hb))
      have cv := CV.out _ (Below.refl _ _)
      have HT := Aside0.mk (tabs_below HTw.out hy.out)
      have HB := Aside0.mk hy.out
      clear hy hlt I0 HTw A dl
      have dl : decide ((i : Int) < (i : Int)) = false := by simp
      have hy := Aside0.mk (Below.refl wr.heap.size wr)
      go_wp2_with (first
        | (go_at_call 7; (with_reducible refine (put_is (w := wr) P.out SZ.out HT.out hy.out).mono ?_); rintro e w' ⟨rfl, hb⟩; clear hy; have hy := Aside0.mk hb; have cv := CV.out _ hb; clear hb)
        | (go_at_call 7; (with_reducible refine (put_is (w := wr) P3.out (by decide) HT.out hy.out).mono ?_); rintro e w' ⟨rfl, hb⟩; clear hy; have hy := Aside0.mk hb; have cv := CV.out _ hb; clear hb)
        | (go_at_call 9; (with_reducible refine (get_is (w := wr) G.out GZ.out HT.out hy.out).mono ?_); rintro e w' ⟨rfl, hb⟩; clear hy; have hy := Aside0.mk hb; have cv := CV.out _ hb; clear hb)
        | (go_at_call 11; (with_reducible refine (may_is (w := wr) M1.out (by decide) HT.out hy.out).mono ?_); rintro e w' ⟨rfl, hb⟩; clear hy; have hy := Aside0.mk hb; have cv := CV.out _ hb; clear hb)
        | (go_at_call 11; (with_reducible refine (may_is (w := wr) M2.out (by decide) HT.out hy.out).mono ?_); rintro e w' ⟨rfl, hb⟩; clear hy; have hy := Aside0.mk hb; have cv := CV.out _ hb; clear hb)
        | (go_at_call 13; (with_reducible refine (num_is (w := wr) _ hy.out).mono ?_); rintro e w' ⟨rfl, hb⟩; clear hy; have hy := Aside0.mk hb; have cv := CV.out _ hb; clear hb)
        | ((with_reducible refine gate_dst (N := 53) rfl ?_); refine lit_event ?hg (N := 53) ?hd (cs := #[.int .u8 (i : Int)]) (t := 5) (n := 1) ?hr ?_; (case hd => rfl); (case hg => rfl); (case hr => first | (go_simp; done) | (go_simp; rfl)); intro g2 hg_ w2 hA hb; have g2C : (convert 36 9 (.slice (some ⟨g2, 0, none⟩) 1 1)).run Tryd.prog w2 = .ok (.string (strOfNums [(i : Int)])) w2 := conv_lit (zs := [(i : Int)]) hA rfl; have hb2 := below_step hy.out hb; clear hy; have hy := Aside0.mk hb2; have cv := CV.out _ hb2; clear hb hb2 hA hg_))
      go_ret
      exact ⟨by first | rfl | (simp; done), below_step HB.out hy.out⟩
theorem limits_calls (many cut : Int) (w : World) (hr : -9223372036854775808 ≤ many ∧ many < 9223372036854775808) (hl : -9223372036854775808 ≤ cut ∧ cut < 9223372036854775808) (hT : Tabs w) : Calls Tryd.prog 6 #[.int .i64 many, .int .i64 cut] w fun e w' => e = .returned (.bool true) ∧ Below w.heap.size w w' := by
  obtain ⟨m, hm, hme⟩ : ∃ m : Nat, m < 8 ∧ many % 8 = (m : Int) := ⟨(many % 8).toNat, by omega, by omega⟩
  have e1 : 60 + Go.bits .and .i64 many 7 = ((60 + m : Nat) : Int) := by rw [and7, hme]; omega
  have P := put_rep (60 + m) (by omega)
  have G := get_rep (60 + m) (by omega)
  have c2 : cut % 2 = 0 ∨ cut % 2 = 1 := by omega
  by_cases h4 : 60 + m ≤ 64
  · rw [if_pos h4] at P G
    have hf : decide (((60 + m : Nat) : Int) ≤ 64) = true := decide_eq_true (by omega)
    rcases c2 with c | c
    · exact limits_0_fine many cut (60 + m) _ _ _ w e1 (by omega) (by omega) hf (by omega) (by rw [andi1, c]) P G hT
    · exact limits_1_fine many cut (60 + m) _ _ _ w e1 (by omega) (by omega) hf (by omega) (by rw [andi1, c]) P G hT
  · rw [if_neg h4] at P G
    have hf : decide (((60 + m : Nat) : Int) ≤ 64) = false := decide_eq_false (by omega)
    rcases c2 with c | c
    · exact limits_0_not many cut (60 + m) _ _ _ w e1 (by omega) (by omega) hf (by omega) (by rw [andi1, c]) P G rfl hT
    · exact limits_1_not many cut (60 + m) _ _ _ w e1 (by omega) (by omega) hf (by omega) (by rw [andi1, c]) P G rfl hT
end Go.Proofs.YtflejniglhjbfaaDoor.ENames
