/-
  peloruslaw13.awake and Names.
-/
import Derived.Test.YtflejniglhjbfaaDoorENamesW
namespace Go.Proofs.YtflejniglhjbfaaDoor.ENames
open Go Go.RowKit Go.Lib Go.Proofs.YtflejniglhjbfaaDoor.F Go.Proofs.YtflejniglhjbfaaDoorW.Hand Go.Proofs.YtflejniglhjbfaaDoorW.PrintWords Go.Proofs.YtflejniglhjbfaaDoorW.PrintLast Go.Proofs.YtflejniglhjbfaaDoorW.PrintMore Go.Proofs.YtflejniglhjbfaaDoor.LebMath Go.Proofs.YtflejniglhjbfaaDoor.LebFns Go.Proofs.YtflejniglhjbfaaDoor.LebGets Go.Proofs.YtflejniglhjbfaaDoor.Pure13
set_option linter.unusedVariables false
set_option linter.unusedSimpArgs false
theorem put_is {s r1 : ByteArray} {r2 : Int} (h : nput s = (r1, r2)) (hs : s.size ≤ 140737488355328) {w W : World} (hT : Tabs w) (hb : Below w.heap.size w W) : Calls Tryd.prog 7 #[.string s] W fun e w' => e = .returned (.tuple #[.string r1, .int .i64 r2]) ∧ Below w.heap.size w w' :=
  (put_calls s W hs (tabs_below hT hb)).mono fun e w' hh => ⟨by rw [hh.1, h], below_step hb hh.2⟩
theorem get_is {s r1 : ByteArray} {a r2 r3 : Int} (h : nget s a = (r1, r2, r3)) (hs : s.size ≤ 140737488355328) {w W : World} (hT : Tabs w) (hb : Below w.heap.size w W) : Calls Tryd.prog 9 #[.string s, .int .i64 a] W fun e w' => e = .returned (.tuple #[.string r1, .int .i64 r2, .int .i64 r3]) ∧ Below w.heap.size w w' :=
  (get_calls s a W hs (tabs_below hT hb)).mono fun e w' hh => ⟨by rw [hh.1, h], below_step hb hh.2⟩
theorem may_is {s : ByteArray} {b : Bool} (h : nmay s = b) (hs : s.size ≤ 140737488355328) {w W : World} (hT : Tabs w) (hb : Below w.heap.size w W) : Calls Tryd.prog 11 #[.string s] W fun e w' => e = .returned (.bool b) ∧ Below w.heap.size w w' :=
  (may_calls s W hs (tabs_below hT hb)).mono fun e w' hh => ⟨by rw [hh.1, h], below_step hb hh.2⟩
theorem num_is (x : Int) {w W : World} (hb : Below w.heap.size w W) : Calls Tryd.prog 13 #[.int .i64 x] W fun e w' => e = .returned (.int .i64 x) ∧ Below w.heap.size w w' :=
  (num_calls x W).mono fun e w' hh => ⟨hh.1, below_step hb hh.2⟩
set_option maxHeartbeats 4000000 in
set_option maxRecDepth 100000 in
theorem awake_calls (w : World) (hT : Tabs w) : Calls Tryd.prog 14 #[] w fun e w' => e = .returned (.bool true) ∧ Below w.heap.size w w' := by
  have P1 : Aside0 (nput ⟨#[104, 195, 169]⟩ = (⟨#[3, 104, 195, 169]⟩, 0)) := ⟨by kernel_rfl⟩
  have P2 : Aside0 (nput ⟨#[255]⟩ = (⟨#[]⟩, 1300)) := ⟨by kernel_rfl⟩
  have G1 : Aside0 (nget (⟨#[120]⟩ ++ ⟨#[3, 104, 195, 169]⟩) 1 = (⟨#[104, 195, 169]⟩, 5, 0)) := ⟨by kernel_rfl⟩
  have G2 : Aside0 (nget ⟨#[5, 97, 98]⟩ 0 = (⟨#[]⟩, 0, 1300)) := ⟨by kernel_rfl⟩
  have M1 : Aside0 (nmay ⟨#[]⟩ = true) := ⟨by kernel_rfl⟩
  have M2 : Aside0 (nmay ⟨#[192, 128]⟩ = false) := ⟨by kernel_rfl⟩
  have HT := Aside0.mk hT
  have hy := Aside0.mk (Below.refl w.heap.size w)
  clear hT
  go_enter Tryd.func14, Tryd.ntmps14
  go_wp2_with (first
    | (go_at_call 7; (with_reducible refine (put_is P1.out (by decide) HT.out hy.out).mono ?_); rintro e w' ⟨rfl, hb⟩; clear hy; have hy := Aside0.mk hb; clear hb)
    | (go_at_call 7; (with_reducible refine (put_is P2.out (by decide) HT.out hy.out).mono ?_); rintro e w' ⟨rfl, hb⟩; clear hy; have hy := Aside0.mk hb; clear hb)
    | (go_at_call 9; (with_reducible refine (get_is G1.out (by decide) HT.out hy.out).mono ?_); rintro e w' ⟨rfl, hb⟩; clear hy; have hy := Aside0.mk hb; clear hb)
    | (go_at_call 9; (with_reducible refine (get_is G2.out (by decide) HT.out hy.out).mono ?_); rintro e w' ⟨rfl, hb⟩; clear hy; have hy := Aside0.mk hb; clear hb)
    | (go_at_call 11; (with_reducible refine (may_is M1.out (by decide) HT.out hy.out).mono ?_); rintro e w' ⟨rfl, hb⟩; clear hy; have hy := Aside0.mk hb; clear hb)
    | (go_at_call 11; (with_reducible refine (may_is M2.out (by decide) HT.out hy.out).mono ?_); rintro e w' ⟨rfl, hb⟩; clear hy; have hy := Aside0.mk hb; clear hb)
    | (go_at_call 13; (with_reducible refine (num_is _ hy.out).mono ?_); rintro e w' ⟨rfl, hb⟩; clear hy; have hy := Aside0.mk hb; clear hb))
  go_ret
  exact ⟨rfl, hy.out⟩
set_option maxHeartbeats 4000000 in
set_option maxRecDepth 100000 in
theorem names_calls (s t : ByteArray) (a : Int) (w : World) (hs : s.size ≤ 140737488355328) (ht : t.size ≤ 140737488355328) (hT : Tabs w) : Calls Tryd.prog 3 #[.string s, .string t, .int .i64 a] w fun e w' => e = .returned (.bool true) ∧ Below w.heap.size w w' := by
  obtain ⟨p1, p2, hp⟩ : ∃ p1 p2, nput s = (p1, p2) := ⟨_, _, rfl⟩
  obtain ⟨g1, g2, g3, hg⟩ : ∃ g1 g2 g3, nget t a = (g1, g2, g3) := ⟨_, _, _, rfl⟩
  obtain ⟨m, hm⟩ : ∃ m, nmay s = m := ⟨_, rfl⟩
  have e8 : Aside0 (∀ W, Below w.heap.size w W → Calls Tryd.prog 8 #[.string s] W fun e w' => e = .returned (.tuple #[.string p1, .int .i64 p2]) ∧ Below w.heap.size w w') := ⟨fun W hb => by
    obtain ⟨k, hk⟩ := Ev.rounds (name_ev s hs)
    rw [hp] at hk
    exact (pelorusref12_Name.calls k s _ _ W hk).mono fun _ _ h => ⟨h.1, below_step hb (by first | exact h.2 | exact below_drawn h.2)⟩⟩
  have e10 : Aside0 (∀ W, Below w.heap.size w W → Calls Tryd.prog 10 #[.string t, .int .i64 a] W fun e w' => e = .returned (.tuple #[.string g1, .int .i64 g2, .int .i64 g3]) ∧ Below w.heap.size w w') := ⟨fun W hb => by
    obtain ⟨k, hk⟩ := Ev.rounds (unname_ev t a ht)
    rw [hg] at hk
    exact (pelorusref12_Unname.calls k t a _ _ _ W hk).mono fun _ _ h => ⟨h.1, below_step hb (by first | exact h.2 | exact below_drawn h.2)⟩⟩
  have e12 : Aside0 (∀ W, Below w.heap.size w W → Calls Tryd.prog 12 #[.string s] W fun e w' => e = .returned (.bool m) ∧ Below w.heap.size w w') := ⟨fun W hb => by
    obtain ⟨k, hk⟩ := Ev.rounds (may_ev s hs)
    rw [hm] at hk
    exact (pelorusref12_NameMay.calls k s _ W hk).mono fun _ _ h => ⟨h.1, below_step hb (by first | exact h.2 | exact below_drawn h.2)⟩⟩
  have e14 : Aside0 (∀ W, Below w.heap.size w W → Calls Tryd.prog 14 #[] W fun e w' => e = .returned (.bool true) ∧ Below w.heap.size w w') := ⟨fun W hb => (awake_calls W (tabs_below hT hb)).mono fun _ _ h => ⟨h.1, below_step hb h.2⟩⟩
  have P := Aside0.mk hp
  have G := Aside0.mk hg
  have M := Aside0.mk hm
  have HS := Aside0.mk hs
  have HS2 := Aside0.mk ht
  have HT := Aside0.mk hT
  have hy := Aside0.mk (Below.refl w.heap.size w)
  clear hT hs ht hp hg hm
  go_enter Tryd.func3, Tryd.ntmps3
  go_wp2_with (first
    | (go_at_call 7; (with_reducible refine (put_is P.out HS.out HT.out hy.out).mono ?_); rintro e w' ⟨rfl, hb⟩; clear hy; have hy := Aside0.mk hb; clear hb)
    | (go_at_call 8; (with_reducible refine (e8.out _ hy.out).mono ?_); rintro e w' ⟨rfl, hb⟩; clear hy; have hy := Aside0.mk hb; clear hb)
    | (go_at_call 9; (with_reducible refine (get_is G.out HS2.out HT.out hy.out).mono ?_); rintro e w' ⟨rfl, hb⟩; clear hy; have hy := Aside0.mk hb; clear hb)
    | (go_at_call 10; (with_reducible refine (e10.out _ hy.out).mono ?_); rintro e w' ⟨rfl, hb⟩; clear hy; have hy := Aside0.mk hb; clear hb)
    | (go_at_call 11; (with_reducible refine (may_is M.out HS.out HT.out hy.out).mono ?_); rintro e w' ⟨rfl, hb⟩; clear hy; have hy := Aside0.mk hb; clear hb)
    | (go_at_call 12; (with_reducible refine (e12.out _ hy.out).mono ?_); rintro e w' ⟨rfl, hb⟩; clear hy; have hy := Aside0.mk hb; clear hb)
    | (go_at_call 14; (with_reducible refine (e14.out _ hy.out).mono ?_); rintro e w' ⟨rfl, hb⟩; clear hy; have hy := Aside0.mk hb; clear hb)
    | (go_at_call 13; (with_reducible refine (num_is _ hy.out).mono ?_); rintro e w' ⟨rfl, hb⟩; clear hy; have hy := Aside0.mk hb; clear hb))
  go_ret
  exact ⟨by first | rfl | (simp; done), hy.out⟩
end Go.Proofs.YtflejniglhjbfaaDoor.ENames
