/-
  peloruslaw27.DiffFirst answers true: of many parts that are turned the first is told.
-/
import Derived.Test.YtddfoogbakiojaaEObsTurn
namespace Go.Proofs.Ytddfoogbakiojaa.EObs
open Go Go.RowKit Go.Proofs.Ytddfoogbakiojaa.F Go.Proofs.Ytddfoogbakiojaa.PureObs Go.Proofs.YtddfoogbakiojaaW.Hand Go.Proofs.YtddfoogbakiojaaW.PrintWords Go.Proofs.YtddfoogbakiojaaW.PrintLast Go.Proofs.YtddfoogbakiojaaW.PrintMore
set_option linter.unusedVariables false
set_option linter.unusedSimpArgs false

def eqp (a b : Obs) : Nat → Prop
  | 1 => a.e = b.e
  | 2 => a.o = b.o
  | 3 => a.outs = b.outs
  | 4 => a.m.toList = b.m.toList
  | 5 => a.g = b.g
  | 6 => a.t = b.t
  | 7 => a.tr = b.tr
  | _ => True
structure Inv (a : Obs) (n : Nat) (b : Obs) (want : Int) : Prop where
  low : ∀ j, j ≤ n → eqp a b j
  told : (want = 0 ∧ ∀ j, eqp a b j) ∨ ∃ m : Nat, n < m ∧ m ≤ 7 ∧ want = m ∧ ¬ eqp a b m ∧ ∀ j, j < m → eqp a b j
theorem eqp_refl (a : Obs) (j : Nat) : eqp a a j := by
  unfold eqp
  split <;> trivial
theorem Inv.start (a : Obs) : Inv a 7 a 0 := ⟨fun j _ => eqp_refl a j, .inl ⟨rfl, eqp_refl a⟩⟩
theorem Inv.skip {a b : Obs} {n : Nat} {want : Int} (h : Inv a (n + 1) b want) : Inv a n b want :=
  ⟨fun j hj => h.low j (by omega), h.told.imp id (fun ⟨m, h1, h2⟩ => ⟨m, by omega, h2⟩)⟩
theorem Inv.turn {a b b' : Obs} {n : Nat} {want : Int} (h : Inv a (n + 1) b want) (h7 : n + 1 ≤ 7) (hne : ¬ eqp a b' (n + 1)) (hlo : ∀ j, j ≤ n → eqp a b j → eqp a b' j) : Inv a n b' ((n + 1 : Nat) : Int) :=
  ⟨fun j hj => hlo j hj (h.low j (by omega)), .inr ⟨n + 1, by omega, h7, rfl, hne, fun j hj => hlo j (by omega) (h.low j (by omega))⟩⟩
theorem unl_told {a b : Obs} {want : Int} (h : Inv a 0 b want) : unl a b = want := by
  rcases h.told with ⟨rfl, h0⟩ | ⟨m, h1, h7, rfl, hne, hlo⟩
  · have e1 := h0 1; have e2 := h0 2; have e3 := h0 3; have e4 := h0 4; have e5 := h0 5; have e6 := h0 6; have e7 := h0 7
    simp only [eqp] at e1 e2 e3 e4 e5 e6 e7
    simp [unl, e1, e2, e3, e4, e5, e6, e7]
  · have : m = 1 ∨ m = 2 ∨ m = 3 ∨ m = 4 ∨ m = 5 ∨ m = 6 ∨ m = 7 := by omega
    rcases this with rfl | rfl | rfl | rfl | rfl | rfl | rfl
    · simp only [eqp] at hne ; simp [unl, hne]
    · have e1 := hlo 1 (by omega); simp only [eqp] at hne e1; simp [unl, e1, hne]
    · have e1 := hlo 1 (by omega); have e2 := hlo 2 (by omega); simp only [eqp] at hne e1 e2; simp [unl, e1, e2, hne]
    · have e1 := hlo 1 (by omega); have e2 := hlo 2 (by omega); have e3 := hlo 3 (by omega); simp only [eqp] at hne e1 e2 e3; simp [unl, e1, e2, e3, hne]
    · have e1 := hlo 1 (by omega); have e2 := hlo 2 (by omega); have e3 := hlo 3 (by omega); have e4 := hlo 4 (by omega); simp only [eqp] at hne e1 e2 e3 e4; simp [unl, e1, e2, e3, e4, hne]
    · have e1 := hlo 1 (by omega); have e2 := hlo 2 (by omega); have e3 := hlo 3 (by omega); have e4 := hlo 4 (by omega); have e5 := hlo 5 (by omega); simp only [eqp] at hne e1 e2 e3 e4 e5; simp [unl, e1, e2, e3, e4, e5, hne]
    · have e1 := hlo 1 (by omega); have e2 := hlo 2 (by omega); have e3 := hlo 3 (by omega); have e4 := hlo 4 (by omega); have e5 := hlo 5 (by omega); have e6 := hlo 6 (by omega); simp only [eqp] at hne e1 e2 e3 e4 e5 e6; simp [unl, e1, e2, e3, e4, e5, e6, hne]
theorem unl_symm (a b : Obs) : unl b a = unl a b := by
  unfold unl
  simp only [eq_comm (a := b.e), eq_comm (a := b.o), eq_comm (a := b.outs), eq_comm (a := b.m.toList), eq_comm (a := b.g), eq_comm (a := b.t), eq_comm (a := b.tr)]
/-- An observation in block g; what it leads to lies elsewhere. -/
def ObsIn (W : World) (g : Nat) (b : Obs) : Prop := ∃ B3 Bc3 B4 Bc4 B6 Bc6 B7 Bc7 B8 Bc8, W.heap[g]? = some (.cells #[.int .i64 b.e, .int .i64 b.o.f0, .int .i64 b.o.f1, .slice B3 b.o.f2.length Bc3, .slice B4 b.outs.length Bc4, .string b.m, .slice B6 b.g.length Bc6, .slice B7 b.t.length Bc7, .slice B8 b.tr.length Bc8] 58 (0, 0)) ∧ (b.o.f2.length ≤ Bc3 ∧ b.outs.length ≤ Bc4 ∧ b.g.length ≤ Bc6 ∧ b.t.length ≤ Bc7 ∧ b.tr.length ≤ Bc8) ∧
  Kd.F k29 W (fun k => k ≠ g) B3 b.o.f2.length b.o.f2 ∧ Kd.F k53 W (fun k => k ≠ g) B4 b.outs.length b.outs ∧ Kd.F k29 W (fun k => k ≠ g) B6 b.g.length b.g ∧ Kd.F (Kd.int .i64) W (fun k => k ≠ g) B7 b.t.length b.t ∧ Kd.F k68 W (fun k => k ≠ g) B8 b.tr.length b.tr
def Rel (a : Obs) (w1 : World) (gb : Nat) (n : Nat) (v7 v8 : Value) (wr : World) : Prop := ∃ (b : Obs) (want : Int), n ≤ 7 ∧ v8 = .int .i64 n ∧ v7 = .int .i64 want ∧ Inv a n b want ∧ ObsIn wr gb b ∧ Below w1.heap.size w1 wr
set_option maxHeartbeats 16000000 in
set_option maxRecDepth 100000 in
theorem diffFirst_calls {w : World} {a : Obs} {ca : List Value} {mask : Int} (ha : kObs.K w a ca) (hm : a.m.size ≤ 140737488351232) (hz4 : a.outs.length * 40 ≤ 140737488351232) (hz6 : a.g.length * 16 ≤ 140737488351232) (hz7 : a.t.length * 8 ≤ 140737488351232) (hz8 : a.tr.length * 32 ≤ 140737488351232) : Calls Try.prog 10 #[.agg ca.toArray, .int .i64 mask] w fun e w' => e = .returned (.bool true) ∧ Below w.heap.size w w' := by
  have hu54 := Try.underlying54
  have hu37 := Try.underlying37
  have hu55 := Try.underlying55
  have hu56 := Try.underlying56
  have hu29 := Try.underlying29
  have hu68 := Try.underlying68
  have hu9 := Try.underlying9
  have M1 := Aside0.mk hm
  have SZ4 := Aside0.mk hz4
  have SZ6 := Aside0.mk hz6
  have SZ7 := Aside0.mk hz7
  have SZ8 := Aside0.mk hz8
  have hms : a.m.size + 1 ≤ maxLen := by unfold maxLen; omega
  clear hz4 hz6 hz7 hz8
  have hu58 := Try.underlying58
  have hu53 := Try.underlying53
  have CA := Aside0.mk (fun W (h : Below w.heap.size w W) => kObs.K_below h ha)
  have OA := Aside0.mk (ok_of_K ha)
  obtain ⟨A3, Ac3, A4, Ac4, A6, Ac6, A7, Ac7, A8, Ac8, rfl, ⟨l3, l4, l6, l7, l8⟩, g3, g4, g6, g7, g8⟩ := kObs_open ha
  have L3 := Aside0.mk l3
  have L4 := Aside0.mk l4
  have L6 := Aside0.mk l6
  have L7 := Aside0.mk l7
  have L8 := Aside0.mk l8
  have F3 := Aside0.mk (Kd.C_F heap29 g3)
  have F4 := Aside0.mk (Kd.C_F heap53 g4)
  have F6 := Aside0.mk (Kd.C_F heap29 g6)
  have F7 := Aside0.mk (Kd.C_F (Kd.heap_int .i64) g7)
  have F8 := Aside0.mk (Kd.C_F heap68 g8)
  clear ha g3 g4 g6 g7 g8 l3 l4 l6 l7 l8
  have HB := Aside0.mk (Below.refl w.heap.size w)
  go_enter Try.func10, Try.ntmps10
  go_wp2_with (first
    | ((with_reducible refine gate_dst (N := 2) rfl ?_); refine box_event ?hg (N := 2) ?hd (cs := #[.int .i64 a.e, .int .i64 a.o.f0, .int .i64 a.o.f1, .slice A3 a.o.f2.length Ac3, .slice A4 a.outs.length Ac4, .string a.m, .slice A6 a.g.length Ac6, .slice A7 a.t.length Ac7, .slice A8 a.tr.length Ac8]) (t := 58) ?hr ?_; (case hd => rfl); (case hg => rfl); (case hr => first | (go_simp; done) | (go_simp; rfl)); intro ga hgga wa hA hb; have A1 := Aside0.mk hA; have HB1 := Aside0.mk (below_step HB.out hb); have GA := Aside0.mk (show w.heap.size ≤ ga by rw [hgga]; exact HB.out.size); clear hA hb hgga HB)
    | (go_at_call 37; refine (awake_calls _).mono ?_; rintro e w1 ⟨rfl, hb⟩; have A2 := Aside0.mk (blk_below A1.out hb); have HB2 := Aside0.mk (below_step HB1.out hb); have x0_0 : ∀ W, Below w1.heap.size w1 W → W.cell? ⟨ga, 0, none⟩ = some (.int .i64 a.e) := fun W hb => pw_cell_below hb (blk_cell A2.out 0); have x0_1 : ∀ W, Below w1.heap.size w1 W → W.cell? ⟨ga, 1, none⟩ = some (.int .i64 a.o.f0) := fun W hb => pw_cell_below hb (blk_cell A2.out 1); have x0_2 : ∀ W, Below w1.heap.size w1 W → W.cell? ⟨ga, 2, none⟩ = some (.int .i64 a.o.f1) := fun W hb => pw_cell_below hb (blk_cell A2.out 2); have x0_3 : ∀ W, Below w1.heap.size w1 W → W.cell? ⟨ga, 3, none⟩ = some (.slice A3 a.o.f2.length Ac3) := fun W hb => pw_cell_below hb (blk_cell A2.out 3); have x0_4 : ∀ W, Below w1.heap.size w1 W → W.cell? ⟨ga, 4, none⟩ = some (.slice A4 a.outs.length Ac4) := fun W hb => pw_cell_below hb (blk_cell A2.out 4); have x0_5 : ∀ W, Below w1.heap.size w1 W → W.cell? ⟨ga, 5, none⟩ = some (.string a.m) := fun W hb => pw_cell_below hb (blk_cell A2.out 5); have x0_6 : ∀ W, Below w1.heap.size w1 W → W.cell? ⟨ga, 6, none⟩ = some (.slice A6 a.g.length Ac6) := fun W hb => pw_cell_below hb (blk_cell A2.out 6); have x0_7 : ∀ W, Below w1.heap.size w1 W → W.cell? ⟨ga, 7, none⟩ = some (.slice A7 a.t.length Ac7) := fun W hb => pw_cell_below hb (blk_cell A2.out 7); have x0_8 : ∀ W, Below w1.heap.size w1 W → W.cell? ⟨ga, 8, none⟩ = some (.slice A8 a.tr.length Ac8) := fun W hb => pw_cell_below hb (blk_cell A2.out 8); have hy : Below w1.heap.size w1 w1 := Below.refl _ _; clear hb A1 HB1)
    | ((with_reducible refine gate_dst (N := 5) rfl ?_); refine box_event ?hg (N := 5) ?hd (cs := #[.int .i64 0, .int .i64 0, .int .i64 0, .slice none 0 0, .slice none 0 0, .string ByteArray.empty, .slice none 0 0, .slice none 0 0, .slice none 0 0]) (t := 58) ?hr ?_; (case hd => rfl); (case hg => rfl); (case hr => first | (go_simp; done) | (go_simp; rfl)); intro gb hggb wb hA hb; have GB := Aside0.mk (show w1.heap.size ≤ gb by rw [hggb]; exact Nat.le_refl _); have hne := Aside0.mk (show ga ≠ gb by rw [hggb]; exact Nat.ne_of_lt (blk_lt A2.out)); have B1 := Aside0.mk hA; have hy0 := hy; clear hy; have hy : Below w1.heap.size w1 wb := below_step hy0 hb; clear hA hb hggb hy0)
    | ((with_reducible refine gate_store (p := 5) rfl ?_); refine storeRow_event (g := gb) rfl rfl rfl (cs := #[.int .i64 a.e, .int .i64 a.o.f0, .int .i64 a.o.f1, .slice A3 a.o.f2.length Ac3, .slice A4 a.outs.length Ac4, .string a.m, .slice A6 a.g.length Ac6, .slice A7 a.t.length Ac7, .slice A8 a.tr.length Ac8]) rfl rfl B1.out (by kernel_rfl) rfl (by simp [Value.oneCell']) ?_; intro wc hA hb ho hs; have B2 := Aside0.mk hA; have hy0 := hy; clear hy; have hy : Below w1.heap.size w1 wc := hb _ _ GB.out hy0; clear hA hb ho hs hy0 B1; have IN := Aside0.mk (show ObsIn wc gb a from ⟨A3, Ac3, A4, Ac4, A6, Ac6, A7, Ac7, A8, Ac8, B2.out, ⟨L3.out, L4.out, L6.out, L7.out, L8.out⟩, Kd.F_mono (F_now' F3.out HB2.out hy) (fun k hk => Nat.ne_of_lt (Nat.lt_of_lt_of_le hk (Nat.le_trans HB2.out.size GB.out))), Kd.F_mono (F_now' F4.out HB2.out hy) (fun k hk => Nat.ne_of_lt (Nat.lt_of_lt_of_le hk (Nat.le_trans HB2.out.size GB.out))), Kd.F_mono (F_now' F6.out HB2.out hy) (fun k hk => Nat.ne_of_lt (Nat.lt_of_lt_of_le hk (Nat.le_trans HB2.out.size GB.out))), Kd.F_mono (F_now' F7.out HB2.out hy) (fun k hk => Nat.ne_of_lt (Nat.lt_of_lt_of_le hk (Nat.le_trans HB2.out.size GB.out))), Kd.F_mono (F_now' F8.out HB2.out hy) (fun k hk => Nat.ne_of_lt (Nat.lt_of_lt_of_le hk (Nat.le_trans HB2.out.size GB.out)))⟩); clear B2))
  go_loopg [7, 8] 7 (fun n v7 v8 wr => Rel a w1 gb n v7 v8 wr)
  case atStart => exact ⟨a, 0, by omega, rfl, rfl, Inv.start a, IN.out, hy⟩
  case round =>
    clear IN hy
    obtain ⟨b, want, hn, rfl, rfl, hI, ⟨B3, Bc3, B4, Bc4, B6, Bc6, B7, Bc7, B8, Bc8, hB, ⟨m3, m4, m6, m7, m8⟩, e3, e4, e6, e7, e8⟩, hy⟩ := hrel
    have I := Aside0.mk hI
    have B2 := Aside0.mk hB
    have M3 := Aside0.mk m3
    have M4 := Aside0.mk m4
    have M6 := Aside0.mk m6
    have M7 := Aside0.mk m7
    have M8 := Aside0.mk m8
    have E3 := Aside0.mk e3
    have E4 := Aside0.mk e4
    have E6 := Aside0.mk e6
    have E7 := Aside0.mk e7
    have E8 := Aside0.mk e8
    clear hI hB m3 m4 m6 m7 m8 e3 e4 e6 e7 e8
    have hcs : gk = 0 ∨ gk = 1 ∨ gk = 2 ∨ gk = 3 ∨ gk = 4 ∨ gk = 5 ∨ gk = 6 ∨ gk = 7 := by omega
    rcases hcs with rfl | rfl | rfl | rfl | rfl | rfl | rfl | rfl
    · have BZ := B2
      have KA := Aside0.mk (CA.out wr (below_step HB2.out hy))
      have KB := Aside0.mk (kObs_mk (w := wr) b M3.out M4.out M6.out M7.out M8.out (Kd.F_now E3.out) (Kd.F_now E4.out) (Kd.F_now E6.out) (Kd.F_now E7.out) (Kd.F_now E8.out))
      have OB := Aside0.mk (ok_of_K KB.out)
      have U1 : Aside0 (unl a b = want) := ⟨unl_told I.out⟩
      have U2 : Aside0 (unl b a = want) := ⟨(unl_symm a b).trans U1.out⟩
      have C1 : Aside0 (∀ W, Below wr.heap.size wr W → Calls Try.prog 35 #[(.agg #[.int .i64 a.e, .int .i64 a.o.f0, .int .i64 a.o.f1, .slice A3 a.o.f2.length Ac3, .slice A4 a.outs.length Ac4, .string a.m, .slice A6 a.g.length Ac6, .slice A7 a.t.length Ac7, .slice A8 a.tr.length Ac8]), (.agg #[.int .i64 b.e, .int .i64 b.o.f0, .int .i64 b.o.f1, .slice B3 b.o.f2.length Bc3, .slice B4 b.outs.length Bc4, .string b.m, .slice B6 b.g.length Bc6, .slice B7 b.t.length Bc7, .slice B8 b.tr.length Bc8])] W fun e w' => e = .returned (.int .i64 want) ∧ Below W.heap.size W w') := ⟨fun W h => diff_calls_v U1.out (kObs.K_below h KA.out) (kObs.K_below h KB.out) OA.out⟩
      have C2 : Aside0 (∀ W, Below wr.heap.size wr W → Calls Try.prog 35 #[(.agg #[.int .i64 b.e, .int .i64 b.o.f0, .int .i64 b.o.f1, .slice B3 b.o.f2.length Bc3, .slice B4 b.outs.length Bc4, .string b.m, .slice B6 b.g.length Bc6, .slice B7 b.t.length Bc7, .slice B8 b.tr.length Bc8]), (.agg #[.int .i64 a.e, .int .i64 a.o.f0, .int .i64 a.o.f1, .slice A3 a.o.f2.length Ac3, .slice A4 a.outs.length Ac4, .string a.m, .slice A6 a.g.length Ac6, .slice A7 a.t.length Ac7, .slice A8 a.tr.length Ac8])] W fun e w' => e = .returned (.int .i64 want) ∧ Below W.heap.size W w') := ⟨fun W h => diff_calls_v U2.out (kObs.K_below h KB.out) (kObs.K_below h KA.out) OB.out⟩
      have C3 : Aside0 (∀ W, Below wr.heap.size wr W → Calls Try.prog 36 #[(.agg #[.int .i64 a.e, .int .i64 a.o.f0, .int .i64 a.o.f1, .slice A3 a.o.f2.length Ac3, .slice A4 a.outs.length Ac4, .string a.m, .slice A6 a.g.length Ac6, .slice A7 a.t.length Ac7, .slice A8 a.tr.length Ac8]), (.agg #[.int .i64 b.e, .int .i64 b.o.f0, .int .i64 b.o.f1, .slice B3 b.o.f2.length Bc3, .slice B4 b.outs.length Bc4, .string b.m, .slice B6 b.g.length Bc6, .slice B7 b.t.length Bc7, .slice B8 b.tr.length Bc8])] W fun e w' => e = .returned (.int .i64 want) ∧ Below W.heap.size W w') := ⟨fun W h => unlike_calls_v U1.out (kObs.K_below h KA.out) (kObs.K_below h KB.out) OA.out⟩
      have HBz := Aside0.mk (below_step HB2.out hy)
      have y0_0 : ∀ W, Below wr.heap.size wr W → W.cell? ⟨ga, 0, none⟩ = some (.int .i64 a.e) := fun W hb => x0_0 W (below_step hy hb)
      have y0_1 : ∀ W, Below wr.heap.size wr W → W.cell? ⟨ga, 1, none⟩ = some (.int .i64 a.o.f0) := fun W hb => x0_1 W (below_step hy hb)
      have y0_2 : ∀ W, Below wr.heap.size wr W → W.cell? ⟨ga, 2, none⟩ = some (.int .i64 a.o.f1) := fun W hb => x0_2 W (below_step hy hb)
      have y0_3 : ∀ W, Below wr.heap.size wr W → W.cell? ⟨ga, 3, none⟩ = some (.slice A3 a.o.f2.length Ac3) := fun W hb => x0_3 W (below_step hy hb)
      have y0_4 : ∀ W, Below wr.heap.size wr W → W.cell? ⟨ga, 4, none⟩ = some (.slice A4 a.outs.length Ac4) := fun W hb => x0_4 W (below_step hy hb)
      have y0_5 : ∀ W, Below wr.heap.size wr W → W.cell? ⟨ga, 5, none⟩ = some (.string a.m) := fun W hb => x0_5 W (below_step hy hb)
      have y0_6 : ∀ W, Below wr.heap.size wr W → W.cell? ⟨ga, 6, none⟩ = some (.slice A6 a.g.length Ac6) := fun W hb => x0_6 W (below_step hy hb)
      have y0_7 : ∀ W, Below wr.heap.size wr W → W.cell? ⟨ga, 7, none⟩ = some (.slice A7 a.t.length Ac7) := fun W hb => x0_7 W (below_step hy hb)
      have y0_8 : ∀ W, Below wr.heap.size wr W → W.cell? ⟨ga, 8, none⟩ = some (.slice A8 a.tr.length Ac8) := fun W hb => x0_8 W (below_step hy hb)
      have y1_0 : ∀ W, Below wr.heap.size wr W → W.cell? ⟨gb, 0, none⟩ = some (.int .i64 b.e) := fun W hb => pw_cell_below hb (blk_cell BZ.out 0)
      have y1_1 : ∀ W, Below wr.heap.size wr W → W.cell? ⟨gb, 1, none⟩ = some (.int .i64 b.o.f0) := fun W hb => pw_cell_below hb (blk_cell BZ.out 1)
      have y1_2 : ∀ W, Below wr.heap.size wr W → W.cell? ⟨gb, 2, none⟩ = some (.int .i64 b.o.f1) := fun W hb => pw_cell_below hb (blk_cell BZ.out 2)
      have y1_3 : ∀ W, Below wr.heap.size wr W → W.cell? ⟨gb, 3, none⟩ = some (.slice B3 b.o.f2.length Bc3) := fun W hb => pw_cell_below hb (blk_cell BZ.out 3)
      have y1_4 : ∀ W, Below wr.heap.size wr W → W.cell? ⟨gb, 4, none⟩ = some (.slice B4 b.outs.length Bc4) := fun W hb => pw_cell_below hb (blk_cell BZ.out 4)
      have y1_5 : ∀ W, Below wr.heap.size wr W → W.cell? ⟨gb, 5, none⟩ = some (.string b.m) := fun W hb => pw_cell_below hb (blk_cell BZ.out 5)
      have y1_6 : ∀ W, Below wr.heap.size wr W → W.cell? ⟨gb, 6, none⟩ = some (.slice B6 b.g.length Bc6) := fun W hb => pw_cell_below hb (blk_cell BZ.out 6)
      have y1_7 : ∀ W, Below wr.heap.size wr W → W.cell? ⟨gb, 7, none⟩ = some (.slice B7 b.t.length Bc7) := fun W hb => pw_cell_below hb (blk_cell BZ.out 7)
      have y1_8 : ∀ W, Below wr.heap.size wr W → W.cell? ⟨gb, 8, none⟩ = some (.slice B8 b.tr.length Bc8) := fun W hb => pw_cell_below hb (blk_cell BZ.out 8)
      clear x0_0 x0_1 x0_2 x0_3 x0_4 x0_5 x0_6 x0_7 x0_8 KA KB OB OA U1 U2 hy A2 BZ B2 CA F3 F4 F6 F7 F8 I E3 E4 E6 E7 E8
      have hy : Below wr.heap.size wr wr := Below.refl _ _
      go_wp2_with (first
        | (go_at_call 35; (with_reducible refine (C1.out _ (by assumption)).mono ?_); rintro e w' ⟨rfl, hb⟩; have hy0 := hy; have hy : Below wr.heap.size wr w' := below_step (by assumption) hb)
        | (go_at_call 35; (with_reducible refine (C2.out _ (by assumption)).mono ?_); rintro e w' ⟨rfl, hb⟩; have hy0 := hy; have hy : Below wr.heap.size wr w' := below_step (by assumption) hb)
        | (go_at_call 36; (with_reducible refine (C3.out _ (by assumption)).mono ?_); rintro e w' ⟨rfl, hb⟩; have hy0 := hy; have hy : Below wr.heap.size wr w' := below_step (by assumption) hb))
      all_goals
        have HS : Below w.heap.size w _ := below_step HBz.out hy
        go_ret
        exact ⟨rfl, HS⟩
    · have hyr := Aside0.mk hy
      have IR := Aside0.mk (show ObsIn wr gb b from ⟨B3, Bc3, B4, Bc4, B6, Bc6, B7, Bc7, B8, Bc8, B2.out, ⟨M3.out, M4.out, M6.out, M7.out, M8.out⟩, E3.out, E4.out, E6.out, E7.out, E8.out⟩)
      clear hms hm
      go_wp2_with (first
        | ((with_reducible refine gate_store (p := 37) rfl ?_); refine storeCell_event (g := gb) (j := 0) (x := .int .i64 (bits .xor .i64 a.e 1)) rfl rfl rfl rfl rfl B2.out (by simp) (by kernel_rfl) rfl ?_; intro wz hA hb ho hs; have INZ := Aside0.mk (show ObsIn wz gb ({b with e := bits .xor .i64 a.e 1} : Obs) from ⟨B3, Bc3, B4, Bc4, B6, Bc6, B7, Bc7, B8, Bc8, hA, ⟨M3.out, M4.out, M6.out, M7.out, M8.out⟩, Kd.F_step E3.out (fun k hk _ => ho k hk), Kd.F_step E4.out (fun k hk _ => ho k hk), Kd.F_step E6.out (fun k hk _ => ho k hk), Kd.F_step E7.out (fun k hk _ => ho k hk), Kd.F_step E8.out (fun k hk _ => ho k hk)⟩); have hy0 := hy; clear hy; have hy : Below w1.heap.size w1 wz := hb _ _ GB.out hy0; clear hA hb ho hs hy0 B2))
      · go_roundg 0
        case measure => omega
        case rel => exact ⟨b, want, by omega, rfl, rfl, I.out.skip, IR.out, hyr.out⟩
      · go_roundg 0
        case measure => omega
        case rel => exact ⟨({b with e := bits .xor .i64 a.e 1} : Obs), 1, by omega, rfl, rfl, I.out.turn (by omega) (fun h => xor_ne a.e h.symm) (fun j hj h => by rcases j with _ | _ | _ | _ | _ | _ | _ | _ | j <;> first | exact h | omega), INZ.out, hy⟩
    · have hyr := Aside0.mk hy
      have IR := Aside0.mk (show ObsIn wr gb b from ⟨B3, Bc3, B4, Bc4, B6, Bc6, B7, Bc7, B8, Bc8, B2.out, ⟨M3.out, M4.out, M6.out, M7.out, M8.out⟩, E3.out, E4.out, E6.out, E7.out, E8.out⟩)
      clear hms hm
      go_wp2_with (first
        | ((with_reducible refine gate_store (p := 45) rfl ?_); refine storeCell_event (g := gb) (j := 1) (x := .int .i64 (bits .xor .i64 a.o.f0 1)) rfl rfl rfl rfl rfl B2.out (by simp) (by kernel_rfl) rfl ?_; intro wz hA hb ho hs; have INZ := Aside0.mk (show ObsIn wz gb ({b with o := ⟨bits .xor .i64 a.o.f0 1, b.o.f1, b.o.f2⟩} : Obs) from ⟨B3, Bc3, B4, Bc4, B6, Bc6, B7, Bc7, B8, Bc8, hA, ⟨M3.out, M4.out, M6.out, M7.out, M8.out⟩, Kd.F_step E3.out (fun k hk _ => ho k hk), Kd.F_step E4.out (fun k hk _ => ho k hk), Kd.F_step E6.out (fun k hk _ => ho k hk), Kd.F_step E7.out (fun k hk _ => ho k hk), Kd.F_step E8.out (fun k hk _ => ho k hk)⟩); have hy0 := hy; clear hy; have hy : Below w1.heap.size w1 wz := hb _ _ GB.out hy0; clear hA hb ho hs hy0 B2))
      · go_roundg 1
        case measure => omega
        case rel => exact ⟨b, want, by omega, rfl, rfl, I.out.skip, IR.out, hyr.out⟩
      · go_roundg 1
        case measure => omega
        case rel => exact ⟨({b with o := ⟨bits .xor .i64 a.o.f0 1, b.o.f1, b.o.f2⟩} : Obs), 2, by omega, rfl, rfl, I.out.turn (by omega) (fun h => xor_ne a.o.f0 (congrArg S53.f0 h).symm) (fun j hj h => by rcases j with _ | _ | _ | _ | _ | _ | _ | _ | j <;> first | exact h | omega), INZ.out, hy⟩
    · have hyr := Aside0.mk hy
      have IR := Aside0.mk (show ObsIn wr gb b from ⟨B3, Bc3, B4, Bc4, B6, Bc6, B7, Bc7, B8, Bc8, B2.out, ⟨M3.out, M4.out, M6.out, M7.out, M8.out⟩, E3.out, E4.out, E6.out, E7.out, E8.out⟩)
      clear hms hm
      go_wp2_with (first
        | ((with_reducible refine gate_dst (N := 49) rfl ?_); refine Kd.N_lit k53 (w0 := w1) w1.heap.size 53 ?hg (N' := 49) ?hd (xs := [⟨3, 0, []⟩]) (inner := [.int .i64 3, .int .i64 0, .slice none 0 0]) (ok := fun k => k ≠ gb) (okp := fun _ => False) ?hr (Reps.c3 (hFK53 _ _ 3 0) (Reps.none _ _)) (fun _ hk => hk.elim) ?hf hy hy.size (by simp) ?_; (case hd => rfl); (case hg => rfl); (case hr => first | (go_simp; done) | (go_simp; rfl)); (case hf => exact Nat.ne_of_gt (blk_lt B2.out)); intro v0 w2 hN hb hgr hat; have N0 := Aside0.mk hN; have V0 := Aside0.mk (new_ne HB2.out.size hy.size hat); have V9 := Aside0.mk (show ∃ m, v0.ownBlock = some m ∧ wr.heap.size ≤ m from hat); have B3' := Aside0.mk ((hgr.block gb (blk_lt B2.out) (by simp)).trans B2.out); have G3 := Aside0.mk (Kd.F_grown (Kd.F_bound E3.out) hgr (fun _ _ => by simp)); have G4 := Aside0.mk (Kd.F_grown (Kd.F_bound E4.out) hgr (fun _ _ => by simp)); have G6 := Aside0.mk (Kd.F_grown (Kd.F_bound E6.out) hgr (fun _ _ => by simp)); have G7 := Aside0.mk (Kd.F_grown (Kd.F_bound E7.out) hgr (fun _ _ => by simp)); have G8 := Aside0.mk (Kd.F_grown (Kd.F_bound E8.out) hgr (fun _ _ => by simp)); clear hy B2; have hy : Below w1.heap.size w1 w2 := hb; clear hN hb hgr hat)
        | ((with_reducible refine gate_dst (N := 52) rfl ?_); refine Kd.N_append_rows k53 (w0 := w1) w1.heap.size ?hg (.tmp 49) (.tmp 51) 54 53 (.agg #[.int .i64 0, .int .i64 0, .slice none 0 0]) 40 ?ho hu54 (by kernel_rfl) rfl (by decide) (by decide) v0 [⟨3, 0, []⟩] a.outs A4 a.outs.length Ac4 (fun k => k ≠ gb) (fun k => k < w.heap.size) ?h1 ?h2 N0.out (F_now' F4.out HB2.out hy) (fun k hk => ⟨Nat.ne_of_lt (Nat.lt_of_lt_of_le hk (Nat.le_trans HB2.out.size GB.out)), V0.out k hk⟩) (fun k hk => Nat.ne_of_gt (Nat.lt_of_lt_of_le (blk_lt B3'.out) hk)) hy hy.size (by have := SZ4.out; simp; omega) ?_; (case hg => rfl); (case ho => rfl); (case h1 => rfl); (case h2 => rfl); intro v1 w3 hN hb hgr hat; have N1 := Aside0.mk hN; have B4' := Aside0.mk (blk_grown B3'.out hgr (fun e => N0.out.1 gb e.symm rfl)); have K3 := Aside0.mk (Kd.F_grown (Kd.F_mono G3.out (fun k hk => show k ≠ gb ∧ some k ≠ v0.ownBlock from ⟨hk.1, fresh_ne hk.2 V9.out⟩)) hgr (fun _ hk => hk.2)); have K4 := Aside0.mk (Kd.F_grown (Kd.F_mono G4.out (fun k hk => show k ≠ gb ∧ some k ≠ v0.ownBlock from ⟨hk.1, fresh_ne hk.2 V9.out⟩)) hgr (fun _ hk => hk.2)); have K6 := Aside0.mk (Kd.F_grown (Kd.F_mono G6.out (fun k hk => show k ≠ gb ∧ some k ≠ v0.ownBlock from ⟨hk.1, fresh_ne hk.2 V9.out⟩)) hgr (fun _ hk => hk.2)); have K7 := Aside0.mk (Kd.F_grown (Kd.F_mono G7.out (fun k hk => show k ≠ gb ∧ some k ≠ v0.ownBlock from ⟨hk.1, fresh_ne hk.2 V9.out⟩)) hgr (fun _ hk => hk.2)); have K8 := Aside0.mk (Kd.F_grown (Kd.F_mono G8.out (fun k hk => show k ≠ gb ∧ some k ≠ v0.ownBlock from ⟨hk.1, fresh_ne hk.2 V9.out⟩)) hgr (fun _ hk => hk.2)); obtain ⟨Q1, q1, rfl⟩ := Kd.N_slice hN; clear hy B3'; have hy : Below w1.heap.size w1 w3 := hb; clear hN hb hgr hat N0 V0 V9 G3 G4 G6 G7 G8)
        | ((with_reducible refine gate_store (p := 53) rfl ?_); refine storeCell_event (g := gb) (j := 4) (x := .slice Q1 (a.outs.length + 1) q1) rfl rfl rfl rfl rfl B4'.out (by simp) (by kernel_rfl) rfl ?_; intro wz hA hb ho hs; have hN := Kd.N_step N1.out (fun k hk _ => ho k hk); have hF := Kd.N_F hN; have hL := (Kd.N_reads' hN).2.1; have INZ := Aside0.mk (show ObsIn wz gb ({b with outs := [⟨3, 0, []⟩] ++ a.outs} : Obs) from ⟨B3, Bc3, Q1, q1, B6, Bc6, B7, Bc7, B8, Bc8, hA.trans (by simp only [List.length_append, List.length_cons, List.length_nil, Nat.zero_add, Nat.add_comm]; rfl), ⟨M3.out, hL, M6.out, M7.out, M8.out⟩, Kd.F_step (Kd.F_mono K3.out (fun k hk => hk.1)) (fun k hk _ => ho k hk), hF, Kd.F_step (Kd.F_mono K6.out (fun k hk => hk.1)) (fun k hk _ => ho k hk), Kd.F_step (Kd.F_mono K7.out (fun k hk => hk.1)) (fun k hk _ => ho k hk), Kd.F_step (Kd.F_mono K8.out (fun k hk => hk.1)) (fun k hk _ => ho k hk)⟩); have hy0 := hy; clear hy; have hy : Below w1.heap.size w1 wz := hb _ _ GB.out hy0; clear hA hb ho hs hy0 B4' N1 hN hF hL))
      · go_roundg 2
        case measure => omega
        case rel => exact ⟨b, want, by omega, rfl, rfl, I.out.skip, IR.out, hyr.out⟩
      · go_roundg 2
        case measure => omega
        case rel => exact ⟨({b with outs := [⟨3, 0, []⟩] ++ a.outs} : Obs), 3, by omega, rfl, rfl, I.out.turn (by omega) (fun h => by have := congrArg List.length h; simp at this) (fun j hj h => by rcases j with _ | _ | _ | _ | _ | _ | _ | _ | j <;> first | exact h | omega), INZ.out, hy⟩
    · have hyr := Aside0.mk hy
      have IR := Aside0.mk (show ObsIn wr gb b from ⟨B3, Bc3, B4, Bc4, B6, Bc6, B7, Bc7, B8, Bc8, B2.out, ⟨M3.out, M4.out, M6.out, M7.out, M8.out⟩, E3.out, E4.out, E6.out, E7.out, E8.out⟩)
      go_wp2_with (first
        | ((with_reducible refine gate_store (p := 59) rfl ?_); refine storeCell_event (g := gb) (j := 5) (x := .string (a.m ++ ⟨#[122]⟩)) rfl rfl rfl rfl rfl B2.out (by simp) (by kernel_rfl) rfl ?_; intro wz hA hb ho hs; have INZ := Aside0.mk (show ObsIn wz gb ({b with m := a.m ++ ⟨#[122]⟩} : Obs) from ⟨B3, Bc3, B4, Bc4, B6, Bc6, B7, Bc7, B8, Bc8, hA, ⟨M3.out, M4.out, M6.out, M7.out, M8.out⟩, Kd.F_step E3.out (fun k hk _ => ho k hk), Kd.F_step E4.out (fun k hk _ => ho k hk), Kd.F_step E6.out (fun k hk _ => ho k hk), Kd.F_step E7.out (fun k hk _ => ho k hk), Kd.F_step E8.out (fun k hk _ => ho k hk)⟩); have hy0 := hy; clear hy; have hy : Below w1.heap.size w1 wz := hb _ _ GB.out hy0; clear hA hb ho hs hy0 B2))
      · go_roundg 3
        case measure => omega
        case rel => exact ⟨b, want, by omega, rfl, rfl, I.out.skip, IR.out, hyr.out⟩
      · go_roundg 3
        case measure => omega
        case rel => exact ⟨({b with m := a.m ++ ⟨#[122]⟩} : Obs), 4, by omega, rfl, rfl, I.out.turn (by omega) (str_ne a.m 122) (fun j hj h => by rcases j with _ | _ | _ | _ | _ | _ | _ | _ | j <;> first | exact h | omega), INZ.out, hy⟩
    · have hyr := Aside0.mk hy
      have IR := Aside0.mk (show ObsIn wr gb b from ⟨B3, Bc3, B4, Bc4, B6, Bc6, B7, Bc7, B8, Bc8, B2.out, ⟨M3.out, M4.out, M6.out, M7.out, M8.out⟩, E3.out, E4.out, E6.out, E7.out, E8.out⟩)
      clear hms hm
      go_wp2_with (first
        | ((with_reducible refine gate_dst (N := 63) rfl ?_); refine Kd.N_lit k29 (w0 := w1) w1.heap.size 29 ?hg (N' := 63) ?hd (xs := [⟨125, 0⟩]) (inner := [.int .i64 125, .int .i64 0]) (ok := fun k => k ≠ gb) (okp := fun _ => False) ?hr (Reps.c2 (hFK29 _ _ 125 0) (Reps.none _ _)) (fun _ hk => hk.elim) ?hf hy hy.size (by simp) ?_; (case hd => rfl); (case hg => rfl); (case hr => first | (go_simp; done) | (go_simp; rfl)); (case hf => exact Nat.ne_of_gt (blk_lt B2.out)); intro v0 w2 hN hb hgr hat; have N0 := Aside0.mk hN; have V0 := Aside0.mk (new_ne HB2.out.size hy.size hat); have V9 := Aside0.mk (show ∃ m, v0.ownBlock = some m ∧ wr.heap.size ≤ m from hat); have B3' := Aside0.mk ((hgr.block gb (blk_lt B2.out) (by simp)).trans B2.out); have G3 := Aside0.mk (Kd.F_grown (Kd.F_bound E3.out) hgr (fun _ _ => by simp)); have G4 := Aside0.mk (Kd.F_grown (Kd.F_bound E4.out) hgr (fun _ _ => by simp)); have G6 := Aside0.mk (Kd.F_grown (Kd.F_bound E6.out) hgr (fun _ _ => by simp)); have G7 := Aside0.mk (Kd.F_grown (Kd.F_bound E7.out) hgr (fun _ _ => by simp)); have G8 := Aside0.mk (Kd.F_grown (Kd.F_bound E8.out) hgr (fun _ _ => by simp)); clear hy B2; have hy : Below w1.heap.size w1 w2 := hb; clear hN hb hgr hat)
        | ((with_reducible refine gate_dst (N := 66) rfl ?_); refine Kd.N_append_rows k29 (w0 := w1) w1.heap.size ?hg (.tmp 63) (.tmp 65) 37 29 (.agg #[.int .i64 0, .int .i64 0]) 16 ?ho hu37 (by kernel_rfl) rfl (by decide) (by decide) v0 [⟨125, 0⟩] a.g A6 a.g.length Ac6 (fun k => k ≠ gb) (fun k => k < w.heap.size) ?h1 ?h2 N0.out (F_now' F6.out HB2.out hy) (fun k hk => ⟨Nat.ne_of_lt (Nat.lt_of_lt_of_le hk (Nat.le_trans HB2.out.size GB.out)), V0.out k hk⟩) (fun k hk => Nat.ne_of_gt (Nat.lt_of_lt_of_le (blk_lt B3'.out) hk)) hy hy.size (by have := SZ6.out; simp; omega) ?_; (case hg => rfl); (case ho => rfl); (case h1 => rfl); (case h2 => rfl); intro v1 w3 hN hb hgr hat; have N1 := Aside0.mk hN; have B4' := Aside0.mk (blk_grown B3'.out hgr (fun e => N0.out.1 gb e.symm rfl)); have K3 := Aside0.mk (Kd.F_grown (Kd.F_mono G3.out (fun k hk => show k ≠ gb ∧ some k ≠ v0.ownBlock from ⟨hk.1, fresh_ne hk.2 V9.out⟩)) hgr (fun _ hk => hk.2)); have K4 := Aside0.mk (Kd.F_grown (Kd.F_mono G4.out (fun k hk => show k ≠ gb ∧ some k ≠ v0.ownBlock from ⟨hk.1, fresh_ne hk.2 V9.out⟩)) hgr (fun _ hk => hk.2)); have K6 := Aside0.mk (Kd.F_grown (Kd.F_mono G6.out (fun k hk => show k ≠ gb ∧ some k ≠ v0.ownBlock from ⟨hk.1, fresh_ne hk.2 V9.out⟩)) hgr (fun _ hk => hk.2)); have K7 := Aside0.mk (Kd.F_grown (Kd.F_mono G7.out (fun k hk => show k ≠ gb ∧ some k ≠ v0.ownBlock from ⟨hk.1, fresh_ne hk.2 V9.out⟩)) hgr (fun _ hk => hk.2)); have K8 := Aside0.mk (Kd.F_grown (Kd.F_mono G8.out (fun k hk => show k ≠ gb ∧ some k ≠ v0.ownBlock from ⟨hk.1, fresh_ne hk.2 V9.out⟩)) hgr (fun _ hk => hk.2)); obtain ⟨Q1, q1, rfl⟩ := Kd.N_slice hN; clear hy B3'; have hy : Below w1.heap.size w1 w3 := hb; clear hN hb hgr hat N0 V0 V9 G3 G4 G6 G7 G8)
        | ((with_reducible refine gate_store (p := 67) rfl ?_); refine storeCell_event (g := gb) (j := 6) (x := .slice Q1 (a.g.length + 1) q1) rfl rfl rfl rfl rfl B4'.out (by simp) (by kernel_rfl) rfl ?_; intro wz hA hb ho hs; have hN := Kd.N_step N1.out (fun k hk _ => ho k hk); have hF := Kd.N_F hN; have hL := (Kd.N_reads' hN).2.1; have INZ := Aside0.mk (show ObsIn wz gb ({b with g := [⟨125, 0⟩] ++ a.g} : Obs) from ⟨B3, Bc3, B4, Bc4, Q1, q1, B7, Bc7, B8, Bc8, hA.trans (by simp only [List.length_append, List.length_cons, List.length_nil, Nat.zero_add, Nat.add_comm]; rfl), ⟨M3.out, M4.out, hL, M7.out, M8.out⟩, Kd.F_step (Kd.F_mono K3.out (fun k hk => hk.1)) (fun k hk _ => ho k hk), Kd.F_step (Kd.F_mono K4.out (fun k hk => hk.1)) (fun k hk _ => ho k hk), hF, Kd.F_step (Kd.F_mono K7.out (fun k hk => hk.1)) (fun k hk _ => ho k hk), Kd.F_step (Kd.F_mono K8.out (fun k hk => hk.1)) (fun k hk _ => ho k hk)⟩); have hy0 := hy; clear hy; have hy : Below w1.heap.size w1 wz := hb _ _ GB.out hy0; clear hA hb ho hs hy0 B4' N1 hN hF hL))
      · go_roundg 4
        case measure => omega
        case rel => exact ⟨b, want, by omega, rfl, rfl, I.out.skip, IR.out, hyr.out⟩
      · go_roundg 4
        case measure => omega
        case rel => exact ⟨({b with g := [⟨125, 0⟩] ++ a.g} : Obs), 5, by omega, rfl, rfl, I.out.turn (by omega) (fun h => by have := congrArg List.length h; simp at this) (fun j hj h => by rcases j with _ | _ | _ | _ | _ | _ | _ | _ | j <;> first | exact h | omega), INZ.out, hy⟩
    · have hyr := Aside0.mk hy
      have IR := Aside0.mk (show ObsIn wr gb b from ⟨B3, Bc3, B4, Bc4, B6, Bc6, B7, Bc7, B8, Bc8, B2.out, ⟨M3.out, M4.out, M6.out, M7.out, M8.out⟩, E3.out, E4.out, E6.out, E7.out, E8.out⟩)
      clear hms hm
      go_wp2_with (first
        | ((with_reducible refine gate_dst (N := 70) rfl ?_); refine Kd.N_lit (Kd.int .i64) (w0 := w1) w1.heap.size 3 ?hg (N' := 70) ?hd (xs := [-1]) (inner := [.int .i64 (-1)]) (ok := fun k => k ≠ gb) (okp := fun _ => False) ?hr (Reps.one (hFKi _ _ (-1)) (Reps.none _ _)) (fun _ hk => hk.elim) ?hf hy hy.size (by simp) ?_; (case hd => rfl); (case hg => rfl); (case hr => first | (go_simp; done) | (go_simp; rfl)); (case hf => exact Nat.ne_of_gt (blk_lt B2.out)); intro v0 w2 hN hb hgr hat; have N0 := Aside0.mk hN; have V0 := Aside0.mk (new_ne HB2.out.size hy.size hat); have V9 := Aside0.mk (show ∃ m, v0.ownBlock = some m ∧ wr.heap.size ≤ m from hat); have B3' := Aside0.mk ((hgr.block gb (blk_lt B2.out) (by simp)).trans B2.out); have G3 := Aside0.mk (Kd.F_grown (Kd.F_bound E3.out) hgr (fun _ _ => by simp)); have G4 := Aside0.mk (Kd.F_grown (Kd.F_bound E4.out) hgr (fun _ _ => by simp)); have G6 := Aside0.mk (Kd.F_grown (Kd.F_bound E6.out) hgr (fun _ _ => by simp)); have G7 := Aside0.mk (Kd.F_grown (Kd.F_bound E7.out) hgr (fun _ _ => by simp)); have G8 := Aside0.mk (Kd.F_grown (Kd.F_bound E8.out) hgr (fun _ _ => by simp)); clear hy B2; have hy : Below w1.heap.size w1 w2 := hb; clear hN hb hgr hat)
        | ((with_reducible refine gate_dst (N := 73) rfl ?_); refine Kd.N_append_rows (Kd.int .i64) (w0 := w1) w1.heap.size ?hg (.tmp 70) (.tmp 72) 55 3 (.int .i64 0) 8 ?ho hu55 (by kernel_rfl) rfl (by decide) (by decide) v0 [-1] a.t A7 a.t.length Ac7 (fun k => k ≠ gb) (fun k => k < w.heap.size) ?h1 ?h2 N0.out (F_now' F7.out HB2.out hy) (fun k hk => ⟨Nat.ne_of_lt (Nat.lt_of_lt_of_le hk (Nat.le_trans HB2.out.size GB.out)), V0.out k hk⟩) (fun k hk => Nat.ne_of_gt (Nat.lt_of_lt_of_le (blk_lt B3'.out) hk)) hy hy.size (by have := SZ7.out; simp; omega) ?_; (case hg => rfl); (case ho => rfl); (case h1 => rfl); (case h2 => rfl); intro v1 w3 hN hb hgr hat; have N1 := Aside0.mk hN; have B4' := Aside0.mk (blk_grown B3'.out hgr (fun e => N0.out.1 gb e.symm rfl)); have K3 := Aside0.mk (Kd.F_grown (Kd.F_mono G3.out (fun k hk => show k ≠ gb ∧ some k ≠ v0.ownBlock from ⟨hk.1, fresh_ne hk.2 V9.out⟩)) hgr (fun _ hk => hk.2)); have K4 := Aside0.mk (Kd.F_grown (Kd.F_mono G4.out (fun k hk => show k ≠ gb ∧ some k ≠ v0.ownBlock from ⟨hk.1, fresh_ne hk.2 V9.out⟩)) hgr (fun _ hk => hk.2)); have K6 := Aside0.mk (Kd.F_grown (Kd.F_mono G6.out (fun k hk => show k ≠ gb ∧ some k ≠ v0.ownBlock from ⟨hk.1, fresh_ne hk.2 V9.out⟩)) hgr (fun _ hk => hk.2)); have K7 := Aside0.mk (Kd.F_grown (Kd.F_mono G7.out (fun k hk => show k ≠ gb ∧ some k ≠ v0.ownBlock from ⟨hk.1, fresh_ne hk.2 V9.out⟩)) hgr (fun _ hk => hk.2)); have K8 := Aside0.mk (Kd.F_grown (Kd.F_mono G8.out (fun k hk => show k ≠ gb ∧ some k ≠ v0.ownBlock from ⟨hk.1, fresh_ne hk.2 V9.out⟩)) hgr (fun _ hk => hk.2)); obtain ⟨Q1, q1, rfl⟩ := Kd.N_slice hN; clear hy B3'; have hy : Below w1.heap.size w1 w3 := hb; clear hN hb hgr hat N0 V0 V9 G3 G4 G6 G7 G8)
        | ((with_reducible refine gate_store (p := 74) rfl ?_); refine storeCell_event (g := gb) (j := 7) (x := .slice Q1 (a.t.length + 1) q1) rfl rfl rfl rfl rfl B4'.out (by simp) (by kernel_rfl) rfl ?_; intro wz hA hb ho hs; have hN := Kd.N_step N1.out (fun k hk _ => ho k hk); have hF := Kd.N_F hN; have hL := (Kd.N_reads' hN).2.1; have INZ := Aside0.mk (show ObsIn wz gb ({b with t := [-1] ++ a.t} : Obs) from ⟨B3, Bc3, B4, Bc4, B6, Bc6, Q1, q1, B8, Bc8, hA.trans (by simp only [List.length_append, List.length_cons, List.length_nil, Nat.zero_add, Nat.add_comm]; rfl), ⟨M3.out, M4.out, M6.out, hL, M8.out⟩, Kd.F_step (Kd.F_mono K3.out (fun k hk => hk.1)) (fun k hk _ => ho k hk), Kd.F_step (Kd.F_mono K4.out (fun k hk => hk.1)) (fun k hk _ => ho k hk), Kd.F_step (Kd.F_mono K6.out (fun k hk => hk.1)) (fun k hk _ => ho k hk), hF, Kd.F_step (Kd.F_mono K8.out (fun k hk => hk.1)) (fun k hk _ => ho k hk)⟩); have hy0 := hy; clear hy; have hy : Below w1.heap.size w1 wz := hb _ _ GB.out hy0; clear hA hb ho hs hy0 B4' N1 hN hF hL))
      · go_roundg 5
        case measure => omega
        case rel => exact ⟨b, want, by omega, rfl, rfl, I.out.skip, IR.out, hyr.out⟩
      · go_roundg 5
        case measure => omega
        case rel => exact ⟨({b with t := [-1] ++ a.t} : Obs), 6, by omega, rfl, rfl, I.out.turn (by omega) (fun h => by have := congrArg List.length h; simp at this) (fun j hj h => by rcases j with _ | _ | _ | _ | _ | _ | _ | _ | j <;> first | exact h | omega), INZ.out, hy⟩
    · have hyr := Aside0.mk hy
      have IR := Aside0.mk (show ObsIn wr gb b from ⟨B3, Bc3, B4, Bc4, B6, Bc6, B7, Bc7, B8, Bc8, B2.out, ⟨M3.out, M4.out, M6.out, M7.out, M8.out⟩, E3.out, E4.out, E6.out, E7.out, E8.out⟩)
      clear hms hm
      go_wp2_with (first
        | ((with_reducible refine gate_dst (N := 27) rfl ?_); refine Kd.N_lit k68 (w0 := w1) w1.heap.size 68 ?hg (N' := 27) ?hd (xs := [⟨9, []⟩]) (inner := [.int .i64 9, .slice none 0 0]) (ok := fun k => k ≠ gb) (okp := fun _ => False) ?hr (Reps.c2 (hFK68 _ _ 9) (Reps.none _ _)) (fun _ hk => hk.elim) ?hf hy hy.size (by simp) ?_; (case hd => rfl); (case hg => rfl); (case hr => first | (go_simp; done) | (go_simp; rfl)); (case hf => exact Nat.ne_of_gt (blk_lt B2.out)); intro v0 w2 hN hb hgr hat; have N0 := Aside0.mk hN; have V0 := Aside0.mk (new_ne HB2.out.size hy.size hat); have V9 := Aside0.mk (show ∃ m, v0.ownBlock = some m ∧ wr.heap.size ≤ m from hat); have B3' := Aside0.mk ((hgr.block gb (blk_lt B2.out) (by simp)).trans B2.out); have G3 := Aside0.mk (Kd.F_grown (Kd.F_bound E3.out) hgr (fun _ _ => by simp)); have G4 := Aside0.mk (Kd.F_grown (Kd.F_bound E4.out) hgr (fun _ _ => by simp)); have G6 := Aside0.mk (Kd.F_grown (Kd.F_bound E6.out) hgr (fun _ _ => by simp)); have G7 := Aside0.mk (Kd.F_grown (Kd.F_bound E7.out) hgr (fun _ _ => by simp)); have G8 := Aside0.mk (Kd.F_grown (Kd.F_bound E8.out) hgr (fun _ _ => by simp)); clear hy B2; have hy : Below w1.heap.size w1 w2 := hb; clear hN hb hgr hat)
        | ((with_reducible refine gate_dst (N := 30) rfl ?_); refine Kd.N_append_rows k68 (w0 := w1) w1.heap.size ?hg (.tmp 27) (.tmp 29) 56 68 (.agg #[.int .i64 0, .slice none 0 0]) 32 ?ho hu56 (by kernel_rfl) rfl (by decide) (by decide) v0 [⟨9, []⟩] a.tr A8 a.tr.length Ac8 (fun k => k ≠ gb) (fun k => k < w.heap.size) ?h1 ?h2 N0.out (F_now' F8.out HB2.out hy) (fun k hk => ⟨Nat.ne_of_lt (Nat.lt_of_lt_of_le hk (Nat.le_trans HB2.out.size GB.out)), V0.out k hk⟩) (fun k hk => Nat.ne_of_gt (Nat.lt_of_lt_of_le (blk_lt B3'.out) hk)) hy hy.size (by have := SZ8.out; simp; omega) ?_; (case hg => rfl); (case ho => rfl); (case h1 => rfl); (case h2 => rfl); intro v1 w3 hN hb hgr hat; have N1 := Aside0.mk hN; have B4' := Aside0.mk (blk_grown B3'.out hgr (fun e => N0.out.1 gb e.symm rfl)); have K3 := Aside0.mk (Kd.F_grown (Kd.F_mono G3.out (fun k hk => show k ≠ gb ∧ some k ≠ v0.ownBlock from ⟨hk.1, fresh_ne hk.2 V9.out⟩)) hgr (fun _ hk => hk.2)); have K4 := Aside0.mk (Kd.F_grown (Kd.F_mono G4.out (fun k hk => show k ≠ gb ∧ some k ≠ v0.ownBlock from ⟨hk.1, fresh_ne hk.2 V9.out⟩)) hgr (fun _ hk => hk.2)); have K6 := Aside0.mk (Kd.F_grown (Kd.F_mono G6.out (fun k hk => show k ≠ gb ∧ some k ≠ v0.ownBlock from ⟨hk.1, fresh_ne hk.2 V9.out⟩)) hgr (fun _ hk => hk.2)); have K7 := Aside0.mk (Kd.F_grown (Kd.F_mono G7.out (fun k hk => show k ≠ gb ∧ some k ≠ v0.ownBlock from ⟨hk.1, fresh_ne hk.2 V9.out⟩)) hgr (fun _ hk => hk.2)); have K8 := Aside0.mk (Kd.F_grown (Kd.F_mono G8.out (fun k hk => show k ≠ gb ∧ some k ≠ v0.ownBlock from ⟨hk.1, fresh_ne hk.2 V9.out⟩)) hgr (fun _ hk => hk.2)); obtain ⟨Q1, q1, rfl⟩ := Kd.N_slice hN; clear hy B3'; have hy : Below w1.heap.size w1 w3 := hb; clear hN hb hgr hat N0 V0 V9 G3 G4 G6 G7 G8)
        | ((with_reducible refine gate_store (p := 31) rfl ?_); refine storeCell_event (g := gb) (j := 8) (x := .slice Q1 (a.tr.length + 1) q1) rfl rfl rfl rfl rfl B4'.out (by simp) (by kernel_rfl) rfl ?_; intro wz hA hb ho hs; have hN := Kd.N_step N1.out (fun k hk _ => ho k hk); have hF := Kd.N_F hN; have hL := (Kd.N_reads' hN).2.1; have INZ := Aside0.mk (show ObsIn wz gb ({b with tr := [⟨9, []⟩] ++ a.tr} : Obs) from ⟨B3, Bc3, B4, Bc4, B6, Bc6, B7, Bc7, Q1, q1, hA.trans (by simp only [List.length_append, List.length_cons, List.length_nil, Nat.zero_add, Nat.add_comm]; rfl), ⟨M3.out, M4.out, M6.out, M7.out, hL⟩, Kd.F_step (Kd.F_mono K3.out (fun k hk => hk.1)) (fun k hk _ => ho k hk), Kd.F_step (Kd.F_mono K4.out (fun k hk => hk.1)) (fun k hk _ => ho k hk), Kd.F_step (Kd.F_mono K6.out (fun k hk => hk.1)) (fun k hk _ => ho k hk), Kd.F_step (Kd.F_mono K7.out (fun k hk => hk.1)) (fun k hk _ => ho k hk), hF⟩); have hy0 := hy; clear hy; have hy : Below w1.heap.size w1 wz := hb _ _ GB.out hy0; clear hA hb ho hs hy0 B4' N1 hN hF hL))
      · go_roundg 6
        case measure => omega
        case rel => exact ⟨b, want, by omega, rfl, rfl, I.out.skip, IR.out, hyr.out⟩
      · go_roundg 6
        case measure => omega
        case rel => exact ⟨({b with tr := [⟨9, []⟩] ++ a.tr} : Obs), 7, by omega, rfl, rfl, I.out.turn (by omega) (fun h => by have := congrArg List.length h; simp at this) (fun j hj h => by rcases j with _ | _ | _ | _ | _ | _ | _ | _ | j <;> first | exact h | omega), INZ.out, hy⟩
end Go.Proofs.Ytddfoogbakiojaa.EObs
