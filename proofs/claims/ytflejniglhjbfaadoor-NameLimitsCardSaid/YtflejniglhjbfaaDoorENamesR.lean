/-
  peloruslaw13.NameRunes.
-/
import Derived.Test.YtflejniglhjbfaaDoorENamesP
import Derived.Test.YtflejniglhjbfaaDoorENamesA
import Derived.Laws.BytesArg
namespace Go.Proofs.YtflejniglhjbfaaDoor.ENames
open Go Go.RowKit Go.Lib Go.Proofs.YtflejniglhjbfaaDoor.F Go.Proofs.YtflejniglhjbfaaDoorW.Hand Go.Proofs.YtflejniglhjbfaaDoorW.PrintWords Go.Proofs.YtflejniglhjbfaaDoorW.PrintLast Go.Proofs.YtflejniglhjbfaaDoorW.PrintMore Go.Proofs.YtflejniglhjbfaaDoor.LebMath Go.Proofs.YtflejniglhjbfaaDoor.LebFns Go.Proofs.YtflejniglhjbfaaDoor.LebGets Go.Proofs.YtflejniglhjbfaaDoor.Pure13
set_option linter.unusedVariables false
set_option linter.unusedSimpArgs false
/-- Bytes in a block of their own, as a string. -/
theorem conv_lit {W : World} {g : Nat} {zs : List Int} {cs : Array Value} (h : W.heap[g]? = some (.cells cs 5 (0, 0))) (hc : cs = (zs.map (Value.int .u8)).toArray) : (convert 36 9 (.slice (some ⟨g, 0, none⟩) zs.length zs.length)).run Tryd.prog W = .ok (.string (strOfNums zs)) W :=
  run_convert_bytes_arg W 36 5 Tryd.underlying36 Tryd.underlying5 g 0 zs.length zs.length zs rfl (fun i hi => by
    rw [Nat.zero_add, blk_cell h, hc]
    simp [List.getD_eq_getElem?_getD, hi]) 9 Tryd.underlying9
theorem ne_list {s : ByteArray} (h : s ≠ ⟨#[239, 191, 189]⟩) : ¬ s.toList = [239, 191, 189] := fun e => h (by
  apply ByteArray.ext
  apply Array.ext'
  rw [ByteArray.toList_eq] at e
  rw [e])
theorem eq_list {s : ByteArray} (h : s = ⟨#[239, 191, 189]⟩) : s.toList = [239, 191, 189] := by rw [ByteArray.toList_eq, h]
theorem and63 (l : Int) : Go.bits .and .i64 l 63 = l % 64 := by
  have := and_mask l 6 (by decide) 63 (by decide)
  simpa using this
set_option maxRecDepth 100000 in
theorem and1 : ∀ b : Fin 64, Go.bits .and .u8 (128 + (b.val : Int)) 1 = (128 + (b.val : Int)) % 2 := by decide +kernel
set_option maxHeartbeats 4000000 in
set_option maxRecDepth 100000 in
theorem runes_low (r low X B : Int) (s : ByteArray) (w : World) (u1 : wrap64 ((IntKind.u64.wrap r).tmod 1114112) = X) (u2 : wrap32 X = X) (u3 : Utf8.encode X = s) (hm : nmay s = true) (hz : s.size ≤ 140737488355328) (hb : Go.bits .and .i64 low 63 = B) (hb0 : 0 ≤ B) (hb1 : B < 64) (d1 : decide (55296 ≤ X) = false) (d3 : ¬ s.toList = [239, 191, 189]) (hT : Tabs w) : Calls Tryd.prog 5 #[.int .i64 r, .int .i64 low] w fun e w' => e = .returned (.bool true) ∧ Below w.heap.size w w' := by
  have e14 : Aside0 (∀ W, Below w.heap.size w W → Calls Tryd.prog 14 #[] W fun e w' => e = .returned (.bool true) ∧ Below w.heap.size w w') := ⟨fun W hb => (awake_calls W (tabs_below hT hb)).mono fun _ _ h => ⟨h.1, below_step hb h.2⟩⟩
  have HT := Aside0.mk hT
  have hy := Aside0.mk (Below.refl w.heap.size w)
  have M := Aside0.mk hm
  have MZ := Aside0.mk hz
  obtain ⟨bn, hbn, hbe⟩ : ∃ bn : Nat, bn < 64 ∧ B = (bn : Int) := ⟨B.toNat, by omega, by omega⟩
  have R1 := raw_not ⟨bn, hbn⟩
  have R2 := over_not ⟨bn, hbn⟩
  have R3 := lone_not ⟨bn, hbn⟩
  have R4 := big_not ⟨bn, hbn⟩
  have v1 := and1 ⟨bn, hbn⟩
  dsimp only at R1 R2 R3 R4 v1
  rw [← hbe] at R1 R2 R3 R4 v1
  replace R1 := Aside0.mk R1
  replace R2 := Aside0.mk R2
  replace R3 := Aside0.mk R3
  replace R4 := Aside0.mk R4
  have R1Z := Aside0.mk (show (strOfNums [237, 160 + (128 + B) % 32, 128 + B]).size ≤ 140737488355328 by rw [strOfNums_size]; simp)
  have R2Z := Aside0.mk (show (strOfNums [192 + (128 + B) % 2, 128 + B]).size ≤ 140737488355328 by rw [strOfNums_size]; simp)
  have R3Z := Aside0.mk (show (strOfNums [128 + B]).size ≤ 140737488355328 by rw [strOfNums_size]; simp)
  have R4Z := Aside0.mk (show (strOfNums [244, 144, 128 + B, 128 + B]).size ≤ 140737488355328 by rw [strOfNums_size]; simp)
  have v2 : (192 + (128 + B) % 2) % 256 = 192 + (128 + B) % 2 := by omega
  clear hT hm hz hbn hbe
  go_enter Tryd.func5, Tryd.ntmps5
  go_wp2_with (first
    | (go_at_call 11; (with_reducible refine (may_is M.out MZ.out HT.out hy.out).mono ?_); rintro e w' ⟨rfl, hb⟩; clear hy; have hy := Aside0.mk hb; clear hb)
    | (go_at_call 11; (with_reducible refine (may_is R1.out R1Z.out HT.out hy.out).mono ?_); rintro e w' ⟨rfl, hb⟩; clear hy; have hy := Aside0.mk hb; clear hb)
    | (go_at_call 11; (with_reducible refine (may_is R2.out R2Z.out HT.out hy.out).mono ?_); rintro e w' ⟨rfl, hb⟩; clear hy; have hy := Aside0.mk hb; clear hb)
    | (go_at_call 11; (with_reducible refine (may_is R3.out R3Z.out HT.out hy.out).mono ?_); rintro e w' ⟨rfl, hb⟩; clear hy; have hy := Aside0.mk hb; clear hb)
    | (go_at_call 11; (with_reducible refine (may_is R4.out R4Z.out HT.out hy.out).mono ?_); rintro e w' ⟨rfl, hb⟩; clear hy; have hy := Aside0.mk hb; clear hb)
    | (go_at_call 14; (with_reducible refine (e14.out _ hy.out).mono ?_); rintro e w' ⟨rfl, hb⟩; clear hy; have hy := Aside0.mk hb; clear hb)
    | (go_at_call 13; (with_reducible refine (num_is _ hy.out).mono ?_); rintro e w' ⟨rfl, hb⟩; clear hy; have hy := Aside0.mk hb; clear hb)
    | ((with_reducible refine gate_dst (N := 34) rfl ?_); (try (refine gate_guard (by rfl) ?_; dsimp only)); refine lit_event ?hg (N := 34) ?hd (cs := #[.int .u8 (237), .int .u8 (160 + (128 + B) % 32), .int .u8 (128 + B)]) (t := 5) (n := 3) ?hr ?_; (case hd => rfl); (case hg => rfl); (case hr => first | (go_simp; done) | (go_simp; rfl)); intro g1 hg_ w1 hA hb; have g1C : (convert 36 9 (.slice (some ⟨g1, 0, none⟩) 3 3)).run Tryd.prog w1 = .ok (.string (strOfNums [237, 160 + (128 + B) % 32, 128 + B])) w1 := conv_lit (zs := [237, 160 + (128 + B) % 32, 128 + B]) hA rfl; have hb2 := below_step hy.out hb; clear hy; have hy := Aside0.mk hb2; clear hb hb2 hA hg_)
    | ((with_reducible refine gate_dst (N := 40) rfl ?_); (try (refine gate_guard (by rfl) ?_; dsimp only)); refine lit_event ?hg (N := 40) ?hd (cs := #[.int .u8 (192 + (128 + B) % 2), .int .u8 (128 + B)]) (t := 5) (n := 2) ?hr ?_; (case hd => rfl); (case hg => rfl); (case hr => first | (go_simp; done) | (go_simp; rfl)); intro g2 hg_ w2 hA hb; have g2C : (convert 36 9 (.slice (some ⟨g2, 0, none⟩) 2 2)).run Tryd.prog w2 = .ok (.string (strOfNums [192 + (128 + B) % 2, 128 + B])) w2 := conv_lit (zs := [192 + (128 + B) % 2, 128 + B]) hA rfl; have hb2 := below_step hy.out hb; clear hy; have hy := Aside0.mk hb2; clear hb hb2 hA hg_)
    | ((with_reducible refine gate_dst (N := 66) rfl ?_); (try (refine gate_guard (by rfl) ?_; dsimp only)); refine lit_event ?hg (N := 66) ?hd (cs := #[.int .u8 (128 + B)]) (t := 5) (n := 1) ?hr ?_; (case hd => rfl); (case hg => rfl); (case hr => first | (go_simp; done) | (go_simp; rfl)); intro g3 hg_ w3 hA hb; have g3C : (convert 36 9 (.slice (some ⟨g3, 0, none⟩) 1 1)).run Tryd.prog w3 = .ok (.string (strOfNums [128 + B])) w3 := conv_lit (zs := [128 + B]) hA rfl; have hb2 := below_step hy.out hb; clear hy; have hy := Aside0.mk hb2; clear hb hb2 hA hg_)
    | ((with_reducible refine gate_dst (N := 74) rfl ?_); (try (refine gate_guard (by rfl) ?_; dsimp only)); refine lit_event ?hg (N := 74) ?hd (cs := #[.int .u8 (244), .int .u8 (144), .int .u8 (128 + B), .int .u8 (128 + B)]) (t := 5) (n := 4) ?hr ?_; (case hd => rfl); (case hg => rfl); (case hr => first | (go_simp; done) | (go_simp; rfl)); intro g4 hg_ w4 hA hb; have g4C : (convert 36 9 (.slice (some ⟨g4, 0, none⟩) 4 4)).run Tryd.prog w4 = .ok (.string (strOfNums [244, 144, 128 + B, 128 + B])) w4 := conv_lit (zs := [244, 144, 128 + B, 128 + B]) hA rfl; have hb2 := below_step hy.out hb; clear hy; have hy := Aside0.mk hb2; clear hb hb2 hA hg_))
  go_ret
  exact ⟨by first | rfl | (simp; done), hy.out⟩
set_option maxHeartbeats 4000000 in
set_option maxRecDepth 100000 in
theorem runes_mid (r low X B : Int) (s : ByteArray) (w : World) (u1 : wrap64 ((IntKind.u64.wrap r).tmod 1114112) = X) (u2 : wrap32 X = X) (u3 : Utf8.encode X = s) (hm : nmay s = true) (hz : s.size ≤ 140737488355328) (hb : Go.bits .and .i64 low 63 = B) (hb0 : 0 ≤ B) (hb1 : B < 64) (d1 : decide (55296 ≤ X) = true) (d2 : decide (X ≤ 57343) = true) (d4 : s.toList = [239, 191, 189]) (d5 : ¬ X = 65533) (d6 : (X != 65533) = true) (hT : Tabs w) : Calls Tryd.prog 5 #[.int .i64 r, .int .i64 low] w fun e w' => e = .returned (.bool true) ∧ Below w.heap.size w w' := by
  have e14 : Aside0 (∀ W, Below w.heap.size w W → Calls Tryd.prog 14 #[] W fun e w' => e = .returned (.bool true) ∧ Below w.heap.size w w') := ⟨fun W hb => (awake_calls W (tabs_below hT hb)).mono fun _ _ h => ⟨h.1, below_step hb h.2⟩⟩
  have HT := Aside0.mk hT
  have hy := Aside0.mk (Below.refl w.heap.size w)
  have M := Aside0.mk hm
  have MZ := Aside0.mk hz
  obtain ⟨bn, hbn, hbe⟩ : ∃ bn : Nat, bn < 64 ∧ B = (bn : Int) := ⟨B.toNat, by omega, by omega⟩
  have R1 := raw_not ⟨bn, hbn⟩
  have R2 := over_not ⟨bn, hbn⟩
  have R3 := lone_not ⟨bn, hbn⟩
  have R4 := big_not ⟨bn, hbn⟩
  have v1 := and1 ⟨bn, hbn⟩
  dsimp only at R1 R2 R3 R4 v1
  rw [← hbe] at R1 R2 R3 R4 v1
  replace R1 := Aside0.mk R1
  replace R2 := Aside0.mk R2
  replace R3 := Aside0.mk R3
  replace R4 := Aside0.mk R4
  have R1Z := Aside0.mk (show (strOfNums [237, 160 + (128 + B) % 32, 128 + B]).size ≤ 140737488355328 by rw [strOfNums_size]; simp)
  have R2Z := Aside0.mk (show (strOfNums [192 + (128 + B) % 2, 128 + B]).size ≤ 140737488355328 by rw [strOfNums_size]; simp)
  have R3Z := Aside0.mk (show (strOfNums [128 + B]).size ≤ 140737488355328 by rw [strOfNums_size]; simp)
  have R4Z := Aside0.mk (show (strOfNums [244, 144, 128 + B, 128 + B]).size ≤ 140737488355328 by rw [strOfNums_size]; simp)
  have v2 : (192 + (128 + B) % 2) % 256 = 192 + (128 + B) % 2 := by omega
  clear hT hm hz hbn hbe
  go_enter Tryd.func5, Tryd.ntmps5
  go_wp2_with (first
    | (go_at_call 11; (with_reducible refine (may_is M.out MZ.out HT.out hy.out).mono ?_); rintro e w' ⟨rfl, hb⟩; clear hy; have hy := Aside0.mk hb; clear hb)
    | (go_at_call 11; (with_reducible refine (may_is R1.out R1Z.out HT.out hy.out).mono ?_); rintro e w' ⟨rfl, hb⟩; clear hy; have hy := Aside0.mk hb; clear hb)
    | (go_at_call 11; (with_reducible refine (may_is R2.out R2Z.out HT.out hy.out).mono ?_); rintro e w' ⟨rfl, hb⟩; clear hy; have hy := Aside0.mk hb; clear hb)
    | (go_at_call 11; (with_reducible refine (may_is R3.out R3Z.out HT.out hy.out).mono ?_); rintro e w' ⟨rfl, hb⟩; clear hy; have hy := Aside0.mk hb; clear hb)
    | (go_at_call 11; (with_reducible refine (may_is R4.out R4Z.out HT.out hy.out).mono ?_); rintro e w' ⟨rfl, hb⟩; clear hy; have hy := Aside0.mk hb; clear hb)
    | (go_at_call 14; (with_reducible refine (e14.out _ hy.out).mono ?_); rintro e w' ⟨rfl, hb⟩; clear hy; have hy := Aside0.mk hb; clear hb)
    | (go_at_call 13; (with_reducible refine (num_is _ hy.out).mono ?_); rintro e w' ⟨rfl, hb⟩; clear hy; have hy := Aside0.mk hb; clear hb)
    | ((with_reducible refine gate_dst (N := 34) rfl ?_); (try (refine gate_guard (by rfl) ?_; dsimp only)); refine lit_event ?hg (N := 34) ?hd (cs := #[.int .u8 (237), .int .u8 (160 + (128 + B) % 32), .int .u8 (128 + B)]) (t := 5) (n := 3) ?hr ?_; (case hd => rfl); (case hg => rfl); (case hr => first | (go_simp; done) | (go_simp; rfl)); intro g1 hg_ w1 hA hb; have g1C : (convert 36 9 (.slice (some ⟨g1, 0, none⟩) 3 3)).run Tryd.prog w1 = .ok (.string (strOfNums [237, 160 + (128 + B) % 32, 128 + B])) w1 := conv_lit (zs := [237, 160 + (128 + B) % 32, 128 + B]) hA rfl; have hb2 := below_step hy.out hb; clear hy; have hy := Aside0.mk hb2; clear hb hb2 hA hg_)
    | ((with_reducible refine gate_dst (N := 40) rfl ?_); (try (refine gate_guard (by rfl) ?_; dsimp only)); refine lit_event ?hg (N := 40) ?hd (cs := #[.int .u8 (192 + (128 + B) % 2), .int .u8 (128 + B)]) (t := 5) (n := 2) ?hr ?_; (case hd => rfl); (case hg => rfl); (case hr => first | (go_simp; done) | (go_simp; rfl)); intro g2 hg_ w2 hA hb; have g2C : (convert 36 9 (.slice (some ⟨g2, 0, none⟩) 2 2)).run Tryd.prog w2 = .ok (.string (strOfNums [192 + (128 + B) % 2, 128 + B])) w2 := conv_lit (zs := [192 + (128 + B) % 2, 128 + B]) hA rfl; have hb2 := below_step hy.out hb; clear hy; have hy := Aside0.mk hb2; clear hb hb2 hA hg_)
    | ((with_reducible refine gate_dst (N := 66) rfl ?_); (try (refine gate_guard (by rfl) ?_; dsimp only)); refine lit_event ?hg (N := 66) ?hd (cs := #[.int .u8 (128 + B)]) (t := 5) (n := 1) ?hr ?_; (case hd => rfl); (case hg => rfl); (case hr => first | (go_simp; done) | (go_simp; rfl)); intro g3 hg_ w3 hA hb; have g3C : (convert 36 9 (.slice (some ⟨g3, 0, none⟩) 1 1)).run Tryd.prog w3 = .ok (.string (strOfNums [128 + B])) w3 := conv_lit (zs := [128 + B]) hA rfl; have hb2 := below_step hy.out hb; clear hy; have hy := Aside0.mk hb2; clear hb hb2 hA hg_)
    | ((with_reducible refine gate_dst (N := 74) rfl ?_); (try (refine gate_guard (by rfl) ?_; dsimp only)); refine lit_event ?hg (N := 74) ?hd (cs := #[.int .u8 (244), .int .u8 (144), .int .u8 (128 + B), .int .u8 (128 + B)]) (t := 5) (n := 4) ?hr ?_; (case hd => rfl); (case hg => rfl); (case hr => first | (go_simp; done) | (go_simp; rfl)); intro g4 hg_ w4 hA hb; have g4C : (convert 36 9 (.slice (some ⟨g4, 0, none⟩) 4 4)).run Tryd.prog w4 = .ok (.string (strOfNums [244, 144, 128 + B, 128 + B])) w4 := conv_lit (zs := [244, 144, 128 + B, 128 + B]) hA rfl; have hb2 := below_step hy.out hb; clear hy; have hy := Aside0.mk hb2; clear hb hb2 hA hg_))
  go_ret
  exact ⟨by first | rfl | (simp; done), hy.out⟩
set_option maxHeartbeats 4000000 in
set_option maxRecDepth 100000 in
theorem runes_high (r low X B : Int) (s : ByteArray) (w : World) (u1 : wrap64 ((IntKind.u64.wrap r).tmod 1114112) = X) (u2 : wrap32 X = X) (u3 : Utf8.encode X = s) (hm : nmay s = true) (hz : s.size ≤ 140737488355328) (hb : Go.bits .and .i64 low 63 = B) (hb0 : 0 ≤ B) (hb1 : B < 64) (d1 : decide (55296 ≤ X) = true) (d2 : decide (X ≤ 57343) = false) (d3 : ¬ s.toList = [239, 191, 189]) (hT : Tabs w) : Calls Tryd.prog 5 #[.int .i64 r, .int .i64 low] w fun e w' => e = .returned (.bool true) ∧ Below w.heap.size w w' := by
  have e14 : Aside0 (∀ W, Below w.heap.size w W → Calls Tryd.prog 14 #[] W fun e w' => e = .returned (.bool true) ∧ Below w.heap.size w w') := ⟨fun W hb => (awake_calls W (tabs_below hT hb)).mono fun _ _ h => ⟨h.1, below_step hb h.2⟩⟩
  have HT := Aside0.mk hT
  have hy := Aside0.mk (Below.refl w.heap.size w)
  have M := Aside0.mk hm
  have MZ := Aside0.mk hz
  obtain ⟨bn, hbn, hbe⟩ : ∃ bn : Nat, bn < 64 ∧ B = (bn : Int) := ⟨B.toNat, by omega, by omega⟩
  have R1 := raw_not ⟨bn, hbn⟩
  have R2 := over_not ⟨bn, hbn⟩
  have R3 := lone_not ⟨bn, hbn⟩
  have R4 := big_not ⟨bn, hbn⟩
  have v1 := and1 ⟨bn, hbn⟩
  dsimp only at R1 R2 R3 R4 v1
  rw [← hbe] at R1 R2 R3 R4 v1
  replace R1 := Aside0.mk R1
  replace R2 := Aside0.mk R2
  replace R3 := Aside0.mk R3
  replace R4 := Aside0.mk R4
  have R1Z := Aside0.mk (show (strOfNums [237, 160 + (128 + B) % 32, 128 + B]).size ≤ 140737488355328 by rw [strOfNums_size]; simp)
  have R2Z := Aside0.mk (show (strOfNums [192 + (128 + B) % 2, 128 + B]).size ≤ 140737488355328 by rw [strOfNums_size]; simp)
  have R3Z := Aside0.mk (show (strOfNums [128 + B]).size ≤ 140737488355328 by rw [strOfNums_size]; simp)
  have R4Z := Aside0.mk (show (strOfNums [244, 144, 128 + B, 128 + B]).size ≤ 140737488355328 by rw [strOfNums_size]; simp)
  have v2 : (192 + (128 + B) % 2) % 256 = 192 + (128 + B) % 2 := by omega
  clear hT hm hz hbn hbe
  go_enter Tryd.func5, Tryd.ntmps5
  go_wp2_with (first
    | (go_at_call 11; (with_reducible refine (may_is M.out MZ.out HT.out hy.out).mono ?_); rintro e w' ⟨rfl, hb⟩; clear hy; have hy := Aside0.mk hb; clear hb)
    | (go_at_call 11; (with_reducible refine (may_is R1.out R1Z.out HT.out hy.out).mono ?_); rintro e w' ⟨rfl, hb⟩; clear hy; have hy := Aside0.mk hb; clear hb)
    | (go_at_call 11; (with_reducible refine (may_is R2.out R2Z.out HT.out hy.out).mono ?_); rintro e w' ⟨rfl, hb⟩; clear hy; have hy := Aside0.mk hb; clear hb)
    | (go_at_call 11; (with_reducible refine (may_is R3.out R3Z.out HT.out hy.out).mono ?_); rintro e w' ⟨rfl, hb⟩; clear hy; have hy := Aside0.mk hb; clear hb)
    | (go_at_call 11; (with_reducible refine (may_is R4.out R4Z.out HT.out hy.out).mono ?_); rintro e w' ⟨rfl, hb⟩; clear hy; have hy := Aside0.mk hb; clear hb)
    | (go_at_call 14; (with_reducible refine (e14.out _ hy.out).mono ?_); rintro e w' ⟨rfl, hb⟩; clear hy; have hy := Aside0.mk hb; clear hb)
    | (go_at_call 13; (with_reducible refine (num_is _ hy.out).mono ?_); rintro e w' ⟨rfl, hb⟩; clear hy; have hy := Aside0.mk hb; clear hb)
    | ((with_reducible refine gate_dst (N := 34) rfl ?_); (try (refine gate_guard (by rfl) ?_; dsimp only)); refine lit_event ?hg (N := 34) ?hd (cs := #[.int .u8 (237), .int .u8 (160 + (128 + B) % 32), .int .u8 (128 + B)]) (t := 5) (n := 3) ?hr ?_; (case hd => rfl); (case hg => rfl); (case hr => first | (go_simp; done) | (go_simp; rfl)); intro g1 hg_ w1 hA hb; have g1C : (convert 36 9 (.slice (some ⟨g1, 0, none⟩) 3 3)).run Tryd.prog w1 = .ok (.string (strOfNums [237, 160 + (128 + B) % 32, 128 + B])) w1 := conv_lit (zs := [237, 160 + (128 + B) % 32, 128 + B]) hA rfl; have hb2 := below_step hy.out hb; clear hy; have hy := Aside0.mk hb2; clear hb hb2 hA hg_)
    | ((with_reducible refine gate_dst (N := 40) rfl ?_); (try (refine gate_guard (by rfl) ?_; dsimp only)); refine lit_event ?hg (N := 40) ?hd (cs := #[.int .u8 (192 + (128 + B) % 2), .int .u8 (128 + B)]) (t := 5) (n := 2) ?hr ?_; (case hd => rfl); (case hg => rfl); (case hr => first | (go_simp; done) | (go_simp; rfl)); intro g2 hg_ w2 hA hb; have g2C : (convert 36 9 (.slice (some ⟨g2, 0, none⟩) 2 2)).run Tryd.prog w2 = .ok (.string (strOfNums [192 + (128 + B) % 2, 128 + B])) w2 := conv_lit (zs := [192 + (128 + B) % 2, 128 + B]) hA rfl; have hb2 := below_step hy.out hb; clear hy; have hy := Aside0.mk hb2; clear hb hb2 hA hg_)
    | ((with_reducible refine gate_dst (N := 66) rfl ?_); (try (refine gate_guard (by rfl) ?_; dsimp only)); refine lit_event ?hg (N := 66) ?hd (cs := #[.int .u8 (128 + B)]) (t := 5) (n := 1) ?hr ?_; (case hd => rfl); (case hg => rfl); (case hr => first | (go_simp; done) | (go_simp; rfl)); intro g3 hg_ w3 hA hb; have g3C : (convert 36 9 (.slice (some ⟨g3, 0, none⟩) 1 1)).run Tryd.prog w3 = .ok (.string (strOfNums [128 + B])) w3 := conv_lit (zs := [128 + B]) hA rfl; have hb2 := below_step hy.out hb; clear hy; have hy := Aside0.mk hb2; clear hb hb2 hA hg_)
    | ((with_reducible refine gate_dst (N := 74) rfl ?_); (try (refine gate_guard (by rfl) ?_; dsimp only)); refine lit_event ?hg (N := 74) ?hd (cs := #[.int .u8 (244), .int .u8 (144), .int .u8 (128 + B), .int .u8 (128 + B)]) (t := 5) (n := 4) ?hr ?_; (case hd => rfl); (case hg => rfl); (case hr => first | (go_simp; done) | (go_simp; rfl)); intro g4 hg_ w4 hA hb; have g4C : (convert 36 9 (.slice (some ⟨g4, 0, none⟩) 4 4)).run Tryd.prog w4 = .ok (.string (strOfNums [244, 144, 128 + B, 128 + B])) w4 := conv_lit (zs := [244, 144, 128 + B, 128 + B]) hA rfl; have hb2 := below_step hy.out hb; clear hy; have hy := Aside0.mk hb2; clear hb hb2 hA hg_))
  go_ret
  exact ⟨by first | rfl | (simp; done), hy.out⟩
set_option maxHeartbeats 4000000 in
set_option maxRecDepth 100000 in
theorem runes_fffd (r low X B : Int) (s : ByteArray) (w : World) (u1 : wrap64 ((IntKind.u64.wrap r).tmod 1114112) = X) (u2 : wrap32 X = X) (u3 : Utf8.encode X = s) (hm : nmay s = true) (hz : s.size ≤ 140737488355328) (hb : Go.bits .and .i64 low 63 = B) (hb0 : 0 ≤ B) (hb1 : B < 64) (d1 : decide (55296 ≤ X) = true) (d2 : decide (X ≤ 57343) = false) (d4 : s.toList = [239, 191, 189]) (d5 : X = 65533) (hT : Tabs w) : Calls Tryd.prog 5 #[.int .i64 r, .int .i64 low] w fun e w' => e = .returned (.bool true) ∧ Below w.heap.size w w' := by
  have e14 : Aside0 (∀ W, Below w.heap.size w W → Calls Tryd.prog 14 #[] W fun e w' => e = .returned (.bool true) ∧ Below w.heap.size w w') := ⟨fun W hb => (awake_calls W (tabs_below hT hb)).mono fun _ _ h => ⟨h.1, below_step hb h.2⟩⟩
  have HT := Aside0.mk hT
  have hy := Aside0.mk (Below.refl w.heap.size w)
  have M := Aside0.mk hm
  have MZ := Aside0.mk hz
  obtain ⟨bn, hbn, hbe⟩ : ∃ bn : Nat, bn < 64 ∧ B = (bn : Int) := ⟨B.toNat, by omega, by omega⟩
  have R1 := raw_not ⟨bn, hbn⟩
  have R2 := over_not ⟨bn, hbn⟩
  have R3 := lone_not ⟨bn, hbn⟩
  have R4 := big_not ⟨bn, hbn⟩
  have v1 := and1 ⟨bn, hbn⟩
  dsimp only at R1 R2 R3 R4 v1
  rw [← hbe] at R1 R2 R3 R4 v1
  replace R1 := Aside0.mk R1
  replace R2 := Aside0.mk R2
  replace R3 := Aside0.mk R3
  replace R4 := Aside0.mk R4
  have R1Z := Aside0.mk (show (strOfNums [237, 160 + (128 + B) % 32, 128 + B]).size ≤ 140737488355328 by rw [strOfNums_size]; simp)
  have R2Z := Aside0.mk (show (strOfNums [192 + (128 + B) % 2, 128 + B]).size ≤ 140737488355328 by rw [strOfNums_size]; simp)
  have R3Z := Aside0.mk (show (strOfNums [128 + B]).size ≤ 140737488355328 by rw [strOfNums_size]; simp)
  have R4Z := Aside0.mk (show (strOfNums [244, 144, 128 + B, 128 + B]).size ≤ 140737488355328 by rw [strOfNums_size]; simp)
  have v2 : (192 + (128 + B) % 2) % 256 = 192 + (128 + B) % 2 := by omega
  subst d5; clear hT hm hz hbn hbe
  go_enter Tryd.func5, Tryd.ntmps5
  go_wp2_with (first
    | (go_at_call 11; (with_reducible refine (may_is M.out MZ.out HT.out hy.out).mono ?_); rintro e w' ⟨rfl, hb⟩; clear hy; have hy := Aside0.mk hb; clear hb)
    | (go_at_call 11; (with_reducible refine (may_is R1.out R1Z.out HT.out hy.out).mono ?_); rintro e w' ⟨rfl, hb⟩; clear hy; have hy := Aside0.mk hb; clear hb)
    | (go_at_call 11; (with_reducible refine (may_is R2.out R2Z.out HT.out hy.out).mono ?_); rintro e w' ⟨rfl, hb⟩; clear hy; have hy := Aside0.mk hb; clear hb)
    | (go_at_call 11; (with_reducible refine (may_is R3.out R3Z.out HT.out hy.out).mono ?_); rintro e w' ⟨rfl, hb⟩; clear hy; have hy := Aside0.mk hb; clear hb)
    | (go_at_call 11; (with_reducible refine (may_is R4.out R4Z.out HT.out hy.out).mono ?_); rintro e w' ⟨rfl, hb⟩; clear hy; have hy := Aside0.mk hb; clear hb)
    | (go_at_call 14; (with_reducible refine (e14.out _ hy.out).mono ?_); rintro e w' ⟨rfl, hb⟩; clear hy; have hy := Aside0.mk hb; clear hb)
    | (go_at_call 13; (with_reducible refine (num_is _ hy.out).mono ?_); rintro e w' ⟨rfl, hb⟩; clear hy; have hy := Aside0.mk hb; clear hb)
    | ((with_reducible refine gate_dst (N := 34) rfl ?_); (try (refine gate_guard (by rfl) ?_; dsimp only)); refine lit_event ?hg (N := 34) ?hd (cs := #[.int .u8 (237), .int .u8 (160 + (128 + B) % 32), .int .u8 (128 + B)]) (t := 5) (n := 3) ?hr ?_; (case hd => rfl); (case hg => rfl); (case hr => first | (go_simp; done) | (go_simp; rfl)); intro g1 hg_ w1 hA hb; have g1C : (convert 36 9 (.slice (some ⟨g1, 0, none⟩) 3 3)).run Tryd.prog w1 = .ok (.string (strOfNums [237, 160 + (128 + B) % 32, 128 + B])) w1 := conv_lit (zs := [237, 160 + (128 + B) % 32, 128 + B]) hA rfl; have hb2 := below_step hy.out hb; clear hy; have hy := Aside0.mk hb2; clear hb hb2 hA hg_)
    | ((with_reducible refine gate_dst (N := 40) rfl ?_); (try (refine gate_guard (by rfl) ?_; dsimp only)); refine lit_event ?hg (N := 40) ?hd (cs := #[.int .u8 (192 + (128 + B) % 2), .int .u8 (128 + B)]) (t := 5) (n := 2) ?hr ?_; (case hd => rfl); (case hg => rfl); (case hr => first | (go_simp; done) | (go_simp; rfl)); intro g2 hg_ w2 hA hb; have g2C : (convert 36 9 (.slice (some ⟨g2, 0, none⟩) 2 2)).run Tryd.prog w2 = .ok (.string (strOfNums [192 + (128 + B) % 2, 128 + B])) w2 := conv_lit (zs := [192 + (128 + B) % 2, 128 + B]) hA rfl; have hb2 := below_step hy.out hb; clear hy; have hy := Aside0.mk hb2; clear hb hb2 hA hg_)
    | ((with_reducible refine gate_dst (N := 66) rfl ?_); (try (refine gate_guard (by rfl) ?_; dsimp only)); refine lit_event ?hg (N := 66) ?hd (cs := #[.int .u8 (128 + B)]) (t := 5) (n := 1) ?hr ?_; (case hd => rfl); (case hg => rfl); (case hr => first | (go_simp; done) | (go_simp; rfl)); intro g3 hg_ w3 hA hb; have g3C : (convert 36 9 (.slice (some ⟨g3, 0, none⟩) 1 1)).run Tryd.prog w3 = .ok (.string (strOfNums [128 + B])) w3 := conv_lit (zs := [128 + B]) hA rfl; have hb2 := below_step hy.out hb; clear hy; have hy := Aside0.mk hb2; clear hb hb2 hA hg_)
    | ((with_reducible refine gate_dst (N := 74) rfl ?_); (try (refine gate_guard (by rfl) ?_; dsimp only)); refine lit_event ?hg (N := 74) ?hd (cs := #[.int .u8 (244), .int .u8 (144), .int .u8 (128 + B), .int .u8 (128 + B)]) (t := 5) (n := 4) ?hr ?_; (case hd => rfl); (case hg => rfl); (case hr => first | (go_simp; done) | (go_simp; rfl)); intro g4 hg_ w4 hA hb; have g4C : (convert 36 9 (.slice (some ⟨g4, 0, none⟩) 4 4)).run Tryd.prog w4 = .ok (.string (strOfNums [244, 144, 128 + B, 128 + B])) w4 := conv_lit (zs := [244, 144, 128 + B, 128 + B]) hA rfl; have hb2 := below_step hy.out hb; clear hy; have hy := Aside0.mk hb2; clear hb hb2 hA hg_))
  go_ret
  exact ⟨by first | rfl | (simp; done), hy.out⟩
theorem runes_calls (r low : Int) (w : World) (hr : -9223372036854775808 ≤ r ∧ r < 9223372036854775808) (hl : -9223372036854775808 ≤ low ∧ low < 9223372036854775808) (hT : Tabs w) : Calls Tryd.prog 5 #[.int .i64 r, .int .i64 low] w fun e w' => e = .returned (.bool true) ∧ Below w.heap.size w w' := by
  obtain ⟨x, hx⟩ : ∃ x : Nat, (r % 18446744073709551616) % 1114112 = (x : Int) := ⟨_, (Int.toNat_of_nonneg (Int.emod_nonneg _ (by decide))).symm⟩
  have hx2 : x < 1114112 := by
    have := Int.emod_lt_of_pos (r % 18446744073709551616) (show (0 : Int) < 1114112 by decide)
    omega
  have u1 : wrap64 ((IntKind.u64.wrap r).tmod 1114112) = (x : Int) := by
    rw [u64_eq, Int.tmod_eq_emod_of_nonneg (Int.emod_nonneg _ (by decide)), hx]
    exact wrap64_eq (by omega) (by omega)
  have u2 : wrap32 (x : Int) = (x : Int) := by unfold wrap32; omega
  have hm := may_rune x hx2
  have hz : (Utf8.encode (x : Int)).size ≤ 140737488355328 := Nat.le_trans (encode_size_le _) (by decide)
  have B0 : 0 ≤ low % 64 := Int.emod_nonneg _ (by decide)
  have B1 : low % 64 < 64 := Int.emod_lt_of_pos _ (by decide)
  clear hx
  by_cases c1 : x < 55296
  · exact runes_low r low x _ _ w u1 u2 rfl hm hz (and63 low) B0 B1 (decide_eq_false (by omega)) (ne_list (rune_other x hx2 (.inl c1) (by omega))) hT
  by_cases c2 : x < 57344
  · exact runes_mid r low x _ _ w u1 u2 rfl hm hz (and63 low) B0 B1 (decide_eq_true (by omega)) (decide_eq_true (by omega)) (eq_list (rune_surrogate x (by omega) c2)) (by omega) (bne_iff_ne.mpr (by omega)) hT
  by_cases c3 : x = 65533
  · subst c3
    exact runes_fffd r low ((65533 : Nat) : Int) _ _ w u1 u2 rfl hm hz (and63 low) B0 B1 (by decide) (by decide) (eq_list rune_fffd) rfl hT
  · exact runes_high r low x _ _ w u1 u2 rfl hm hz (and63 low) B0 B1 (decide_eq_true (by omega)) (decide_eq_false (by omega)) (ne_list (rune_other x hx2 (.inr (by omega)) c3)) hT
end Go.Proofs.YtflejniglhjbfaaDoor.ENames
