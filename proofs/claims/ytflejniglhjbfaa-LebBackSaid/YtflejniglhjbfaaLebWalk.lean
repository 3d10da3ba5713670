/-
  Contracts of package leb's functions, for walks by hand.
-/
import Derived.Test.YtflejniglhjbfaaLebPads
import Derived.Test.YtflejniglhjbfaaWByt
namespace Go.Proofs.Ytflejniglhjbfaa.LebWalk
open Go Go.RowKit Go.Proofs.YtflejniglhjbfaaW.Hand Go.Proofs.YtflejniglhjbfaaW.Byt Go.Proofs.YtflejniglhjbfaaW.PrintWords Go.Proofs.YtflejniglhjbfaaW.PrintLast Go.Proofs.YtflejniglhjbfaaW.PrintMore Go.Proofs.Ytflejniglhjbfaa.LebMath Go.Proofs.Ytflejniglhjbfaa.LebFns Go.Proofs.Ytflejniglhjbfaa.LebGets Go.Proofs.Ytflejniglhjbfaa.LebGetS Go.Proofs.Ytflejniglhjbfaa.LebBacks Go.Proofs.Ytflejniglhjbfaa.LebPads Go.Proofs.Ytflejniglhjbfaa.F
set_option linter.unusedVariables false
set_option linter.unusedSimpArgs false
theorem awake_ev0 : Ev (fun k => peloruslaw12_awake.f k) true := Ev.of peloruslaw12_awake.mono (k := 20) (by decide +kernel)
theorem awake_c (w : World) : Calls Try.prog 18 #[] w fun e w' => e = .returned (.bool true) ∧ Below w.heap.size w w' := by
  obtain ⟨k, hk⟩ := awake_ev0.rounds
  exact (peloruslaw12_awake.calls k true w hk).mono fun _ _ hh => ⟨hh.1, by first | exact hh.2 | exact hh.2.below⟩
theorem put_c (x : Int) (w : World) : Calls Try.prog 13 #[.int .i64 x] w fun e w' => e = .returned (.string (strOfNums (U 9 (x % 18446744073709551616)))) ∧ Below w.heap.size w w' := by
  obtain ⟨k, hk⟩ := (put_ev x).rounds
  exact (leb_Put.calls k x _ w hk).mono fun _ _ hh => ⟨hh.1, by first | exact hh.2 | exact hh.2.below⟩
theorem puts_c (x : Int) (h0 : -9223372036854775808 ≤ x) (h1 : x < 9223372036854775808) (w : World) : Calls Try.prog 15 #[.int .i64 x] w fun e w' => e = .returned (.string (strOfNums (S 9 x))) ∧ Below w.heap.size w w' := by
  obtain ⟨k, hk⟩ := (puts_ev x h0 h1).rounds
  exact (leb_PutSigned.calls k x _ w hk).mono fun _ _ hh => ⟨hh.1, by first | exact hh.2 | exact hh.2.below⟩
theorem get_c {s : ByteArray} {a b x y z : Int} (hz : s.size ≤ 140737488355328) (h : G s a b = (x, y, z)) (w : World) : Calls Try.prog 9 #[.string s, .int .i64 a, .int .i64 b] w fun e w' => e = .returned (.tuple #[.int .i64 x, .int .i64 y, .int .i64 z]) ∧ Below w.heap.size w w' := by
  obtain ⟨k, hk⟩ := (get_ev s a b hz).rounds
  rw [h] at hk
  exact (leb_Get.calls k s a b x y z w hk).mono fun _ _ hh => ⟨hh.1, by first | exact hh.2 | exact hh.2.below⟩
theorem gets_c {s : ByteArray} {a b x y z : Int} (hz : s.size ≤ 140737488355328) (h : GS s a b = (x, y, z)) (w : World) : Calls Try.prog 11 #[.string s, .int .i64 a, .int .i64 b] w fun e w' => e = .returned (.tuple #[.int .i64 x, .int .i64 y, .int .i64 z]) ∧ Below w.heap.size w w' := by
  obtain ⟨k, hk⟩ := (gets_ev s a b hz).rounds
  rw [h] at hk
  exact (leb_GetSigned.calls k s a b x y z w hk).mono fun _ _ hh => ⟨hh.1, by first | exact hh.2 | exact hh.2.below⟩
theorem num_c (e : Int) (w : World) : Calls Try.prog 17 #[.int .i64 e] w fun r w' => r = .returned (.int .i64 e) ∧ w = w' := by
  go_enter Try.func17, Try.ntmps17
  go_wp2
  go_ret
  exact ⟨rfl, rfl⟩
theorem or_last {l : Int} (h0 : 0 ≤ l) (h1 : l < 128) : Go.bits .or .u8 l 128 = l + 128 := by
  rw [or_u8 l h0 (by omega)]
  omega
theorem pad_eq {ds : List Int} {m : Nat} (h : ds.length = m + 1) : ds.set m (nth ds m + 128) ++ [0] = pad ds := by
  unfold pad
  rw [h, Nat.add_sub_cancel]
theorem nums_len (ds : List Int) : (strOfNums ds).size = ds.length := size_str ds
/-- A row of parts that says y. -/
def Row (w wr : World) (L : Int) (y : Int) (m : Nat) (v : Value) (g : Nat) (ds : List Int) : Prop := ∃ c, v = .slice (some ⟨g, 0, none⟩) (m + 1) c ∧ ds.length = m + 1 ∧ BytAt wr 5 g c ds ∧ Pd L ds y ∧ w.heap.size ≤ g
end Go.Proofs.Ytflejniglhjbfaa.LebWalk
