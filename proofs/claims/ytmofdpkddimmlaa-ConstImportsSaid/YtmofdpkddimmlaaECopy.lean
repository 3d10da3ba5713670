/-
  CopyInstrs: the same tree anew.
-/
import Derived.Test.YtmofdpkddimmlaaESame
namespace Go.Proofs.Ytmofdpkddimmlaa.ESame
open Go Go.RowKit Go.Proofs.Ytmofdpkddimmlaa.F Go.Proofs.YtmofdpkddimmlaaW.Hand Go.Proofs.YtmofdpkddimmlaaW.PrintWords Go.Proofs.YtmofdpkddimmlaaW.PrintLast Go.Proofs.YtmofdpkddimmlaaW.PrintMore
set_option linter.unusedVariables false
set_option linter.unusedSimpArgs false
/-- One element in a block of its own, as a row that is read. -/
theorem F_one {α : Type} {d : Kd α} {W : World} {g : Nat} {cs : List Value} {t : TypeId} {x : α} {ok : Nat → Prop} (h : W.heap[g]? = some (.cells cs.toArray t (0, 0))) (hg : ok g) (hk : Kd.FK d W ok x cs) : Kd.F d W ok (some ⟨g, 0, none⟩) 1 [x] := by
  intro W' hW
  refine ⟨rfl, by simp, fun _ => ⟨_, rfl, fun j p hp => ?_⟩⟩
  cases j with
  | zero =>
    obtain rfl : x = p := by simpa using hp
    have hK := hk W' hW
    refine ⟨cs, d.K_len hK, hK, fun i u hu => ?_⟩
    rw [add_plain, blk_cell ((hW g hg (blk_lt h)).trans h)]
    simpa using hu
  | succ j => simp at hp
/-- No list of the tree is too long to be made anew. -/
def Fit : Nat → List S106 → Prop
  | 0, _ => True
  | n + 1, is => is.length * 112 ≤ 140737488351232 ∧ ∀ x, x ∈ is → x.f5.length * 8 ≤ 140737488351232 ∧ Fit n x.f6 ∧ Fit n x.f7
theorem FK_106 {W : World} {x : S106} {A5 A6 A7 : Option Addr} {c5 c6 c7 : Nat} {ok : Nat → Prop} (h5 : Kd.F (Kd.int .i64) W ok A5 x.f5.length x.f5) (l5 : x.f5.length ≤ c5) (h6 : Kd.F k106 W ok A6 x.f6.length x.f6) (l6 : x.f6.length ≤ c6) (h7 : Kd.F k106 W ok A7 x.f7.length x.f7) (l7 : x.f7.length ≤ c7) :
    Kd.FK k106 W ok x [.int .i64 x.f0, .int .i64 x.f1, .int .i64 x.f2, .int .i64 x.f3, .int .i64 x.f4, .slice A5 x.f5.length c5, .slice A6 x.f6.length c6, .slice A7 x.f7.length c7] := fun W' hW => k106_mk W' x l5 (h5 W' hW) l6 (h6 W' hW) l7 (h7 W' hW)
def RelC (w : World) (is : List S106) (n : Nat) (v3 v4 : Value) (wr : World) : Prop := ∃ (i : Nat) (A : Option Addr) (c : Nat), i + n = is.length ∧ .slice A i c = v3 ∧ v4 = .int .i64 i ∧ Kd.N k106 106 wr 0 (fun k => w.heap.size ≤ k) (.slice A i c) (is.take i) ∧ Below w.heap.size w wr
theorem take_x (is : List S106) (i : Nat) (h : i < is.length) : is.take i ++ [rd_T106 is (i : Int)] = is.take (i + 1) := by
  unfold rd_T106
  rw [Int.toNat_natCast, List.take_add_one, List.getD_eq_getElem?_getD]
  simp [h]
set_option maxHeartbeats 16000000 in
set_option maxRecDepth 100000 in
theorem copy_size : ∀ (n : Nat) (is : List S106), SizeOf.sizeOf is ≤ n → Fit n is → ∀ (w : World) {A : Option Addr} {c : Nat}, k106.C w A is.length is → is.length ≤ c →
    Calls Try.prog 40 #[.slice A is.length c] w fun e w' => ∃ P p, e = .returned (.slice P is.length p) ∧ Kd.N k106 106 w' 0 (fun k => w.heap.size ≤ k) (.slice P is.length p) is ∧ Below w.heap.size w w' := by
  intro n
  induction n with
  | zero =>
    intro is hn
    cases is <;> simp at hn
  | succ n ih =>
  intro is hn hfit w A c hA hc
  have hu34 := Try.underlying34
  have hu91 := Try.underlying91
  have HA := Aside0.mk hA
  have HN := Aside0.mk hn
  have FL := Aside0.mk hfit.1
  have FX := Aside0.mk hfit.2
  clear hA hn hfit
  go_enter Try.func40, Try.ntmps40
  go_wp2
  go_loopg [3, 4] is.length (fun n v3 v4 wr => RelC w is n v3 v4 wr)
  case atStart => first | exact ⟨0, none, 0, by omega, rfl, rfl, Kd.N_nil _ _ _ _ _, Below.refl _ _⟩ | exact ⟨0, none, 0, by omega, rfl, rfl, Kd.N_nil _ _ _ _ _, below_drew (Below.refl _ _)⟩
  case round =>
    obtain ⟨i, AO, cO, hi, rfl, rfl, hN, hb⟩ := hrel
    have I1 := Aside0.mk hi
    have HY0 := Aside0.mk hb
    have NO := Aside0.mk hN
    clear hi hb hN
    by_cases hlt : i < is.length
    · have dl : decide (i < is.length) = true := decide_eq_true hlt
      have dl2 : decide ((i : Int) < (is.length : Int)) = true := decide_eq_true (by omega)
      have hi0 : (0 : Int) ≤ (i : Int) := by omega
      have w1 : wrap64 ((i : Int) + 1) = (i : Int) + 1 := by have := FL.out; unfold wrap64; omega
      have HLT := Aside0.mk hlt
      obtain ⟨ad, A5, a5c, A6, a6c, A7, a7c, eA, a0, a1, a2, a3, a4, a5, a6, a7, l5, C5, l6, C6, l7, C7⟩ := at_T106 (Kd.C_below HA.out HY0.out) (i : Int) (by omega) (by omega)
      subst eA
      have hsz : SizeOf.sizeOf (rd_T106 is (i : Int)) < SizeOf.sizeOf is := List.sizeOf_lt_of_mem (rd106_mem hlt)
      have hs6 := size106 (rd_T106 is (i : Int))
      have SZ0 : SizeOf.sizeOf (rd_T106 is (i : Int)).f6 ≤ n ∧ SizeOf.sizeOf (rd_T106 is (i : Int)).f7 ≤ n := by have := HN.out; omega
      have FT0 := FX.out _ (rd106_mem hlt)
      have tk := take_x is i hlt
      clear hsz hs6
      generalize rd_T106 is (i : Int) = x at *
      simp only [Int.toNat_natCast] at a0 a1 a2 a3 a4 a5 a6 a7
      have SZ := Aside0.mk SZ0
      have FT := Aside0.mk FT0
      have take_x := Aside0.mk tk
      have C5' := C5; have C6' := C6; have C7' := C7
      clear C5 C6 C7 SZ0 FT0 tk
      have C5 := Aside0.mk C5'
      have C6 := Aside0.mk C6'
      have C7 := Aside0.mk C7'
      clear C5' C6' C7'
      go_wp2_with (first
        | ((with_reducible refine gate_dst (N := 5) rfl ?_); refine box_event ?hg (N := 5) ?hd (cs := #[.int .i64 0, .int .i64 0, .int .i64 0, .int .i64 0, .int .i64 0, .slice none 0 0, .slice none 0 0, .slice none 0 0]) (t := 106) ?hr ?_; (case hd => rfl); (case hg => rfl); (case hr => first | (go_simp; done) | (go_simp; rfl)); intro g hgg w1 hA hb; have GE := Aside0.mk (show wr.heap.size ≤ g by rw [hgg]; exact Nat.le_refl _); have HB1 := Aside0.mk hb; have K1 := Aside0.mk hA; clear hgg hb hA a0 a1 a2 a3 a4 a5 a6 a7)
        | ((with_reducible refine gate_store (p := 5) rfl ?_); refine storeRow_event (g := g) rfl rfl rfl (cs := #[.int .i64 x.f0, .int .i64 x.f1, .int .i64 x.f2, .int .i64 x.f3, .int .i64 x.f4, .slice A5 x.f5.length a5c, .slice A6 x.f6.length a6c, .slice A7 x.f7.length a7c]) rfl rfl K1.out (by kernel_rfl) rfl (by simp [Value.oneCell']) ?_; intro w2 hA hb ho hs; have HB2 := Aside0.mk (hb _ _ GE.out HB1.out); have K2 := Aside0.mk hA; have y5 : w2.cell? ⟨g, 5, none⟩ = some (.slice A5 x.f5.length a5c) := blk_cell hA 5; clear hA hb ho hs K1 HB1)
        | ((with_reducible refine gate_dst (N := 16) rfl ?_); refine Kd.R_lit (Kd.int .i64) (w0 := wr) wr.heap.size 3 ?hg (N := 16) ?hd (xs := []) (inner := []) (ok := fun _ => True) (okp := fun _ => False) ?hr (Reps.none _ _) (fun _ hk => hk.elim) trivial HB2.out HB2.out.size (by simp) ?_; (case hd => rfl); (case hg => rfl); (case hr => first | (go_simp; done) | (go_simp; rfl)); intro v1 w3 hR hb hgr _; have R1 := Aside0.mk hR; have HB3 := Aside0.mk hb; have K3 := Aside0.mk (blk_grown K2.out hgr (by simp)); have z5 : w3.cell? ⟨g, 5, none⟩ = some (.slice A5 x.f5.length a5c) := blk_cell K3.out 5; clear y5; clear hR hb hgr K2)
        | ((with_reducible refine gate_dst (N := 19) rfl ?_); refine Kd.R_append_rows (Kd.int .i64) (w0 := wr) wr.heap.size rfl (.tmp 16) (.tmp 18) 34 3 (.int .i64 0) 8 rfl hu34 (by kernel_rfl) rfl (by decide) (by decide) v1 [] x.f5 A5 x.f5.length a5c (fun _ => True) (fun _ => False) rfl rfl R1.out (Kd.C_below C5.out HB3.out) (fun _ _ h => h) (fun _ hk => hk.elim) (fun _ _ => trivial) HB3.out HB3.out.size (by have := FT.out.1; simp; omega) ?_; intro v2 w4 hR hb hgr _; have NG := Aside0.mk (Kd.R_ne R1.out K3.out (by decide)); have K4 := Aside0.mk (blk_grown K3.out hgr NG.out); obtain ⟨P5, p5c, rfl⟩ := Kd.R_slice hR; have R2 := Aside0.mk (Kd.R_bound hR); have HB4 := Aside0.mk hb; clear hR hb hgr K3 HB3 NG R1)
        | ((with_reducible refine gate_store (p := 20) rfl ?_); refine storeCell_event (g := g) (j := 5) (x := .slice P5 x.f5.length p5c) rfl rfl rfl rfl rfl K4.out (by simp) (by kernel_rfl) rfl ?_; intro w5 hA hb ho hs; have HB5 := Aside0.mk (hb _ _ GE.out HB4.out); have HB5z := Aside0.mk HB5.out.size; have K5 : Aside0 (w5.heap[g]? = some (.cells #[.int .i64 x.f0, .int .i64 x.f1, .int .i64 x.f2, .int .i64 x.f3, .int .i64 x.f4, .slice P5 x.f5.length p5c, .slice A6 x.f6.length a6c, .slice A7 x.f7.length a7c] 106 (0, 0))) := ⟨hA⟩; have NR2 : Aside0 (some g ≠ (Value.slice P5 x.f5.length p5c).ownBlock) := ⟨Kd.R_ne R2.out K4.out (by decide)⟩; have R3 := Aside0.mk (Kd.R_step (Kd.R_types R2.out K4.out (by decide)) (fun k hk _ => ho k hk.2)); have y6 : w5.cell? ⟨g, 6, none⟩ = some (.slice A6 x.f6.length a6c) := blk_cell K5.out 6; clear hA hb ho hs K4 HB4 R2)
        | (go_at_call 40; (with_reducible refine (ih x.f6 (by have := SZ.out; omega) FT.out.2.1 w5 (Kd.C_below C6.out HB5.out) l6).mono ?_); rintro e w6 ⟨P6, p6c, rfl, hN, hb⟩; have HB6 := Aside0.mk (below_step HB5.out hb); have K6 := Aside0.mk (blk_below K5.out hb); have R4 := Aside0.mk (Kd.R_below R3.out hb); have N6 := Aside0.mk hN; have S56 := Aside0.mk hb.size; have LG6 := Aside0.mk (blk_lt K5.out); clear hN hb K5 HB5 R3 y6)
        | ((with_reducible refine gate_store (p := 24) rfl ?_); refine storeCell_event (g := g) (j := 6) (x := .slice P6 x.f6.length p6c) rfl rfl rfl rfl rfl K6.out (by simp) (by kernel_rfl) rfl ?_; intro w7 hA hb ho hs; have HB7 := Aside0.mk (hb _ _ GE.out HB6.out); have HB7z := Aside0.mk HB7.out.size; have K7 : Aside0 (w7.heap[g]? = some (.cells #[.int .i64 x.f0, .int .i64 x.f1, .int .i64 x.f2, .int .i64 x.f3, .int .i64 x.f4, .slice P5 x.f5.length p5c, .slice P6 x.f6.length p6c, .slice A7 x.f7.length a7c] 106 (0, 0))) := ⟨hA⟩; have R5 := Aside0.mk (Kd.R_step R4.out (fun k hk _ => ho k hk.2)); have N7 := Aside0.mk (Kd.N_step N6.out (fun k hk _ => ho k (by have := LG6.out; have h := (show w5.heap.size ≤ k from hk); omega))); have y7 : w7.cell? ⟨g, 7, none⟩ = some (.slice A7 x.f7.length a7c) := blk_cell K7.out 7; clear hA hb ho hs K6 HB6 R4 N6)
        | (go_at_call 40; (with_reducible refine (ih x.f7 (by have := SZ.out; omega) FT.out.2.2 w7 (Kd.C_below C7.out HB7.out) l7).mono ?_); rintro e w8 ⟨P7, p7c, rfl, hN, hb⟩; have HB8 := Aside0.mk (below_step HB7.out hb); have K8 := Aside0.mk (blk_below K7.out hb); have R6 := Aside0.mk (Kd.R_below R5.out hb); have N8 := Aside0.mk (Kd.N_below N7.out hb); have M8 := Aside0.mk hN; have LG8 := Aside0.mk (blk_lt K7.out); clear hN hb K7 HB7 R5 N7 y7)
        | ((with_reducible refine gate_store (p := 28) rfl ?_); refine storeCell_event (g := g) (j := 7) (x := .slice P7 x.f7.length p7c) rfl rfl rfl rfl rfl K8.out (by simp) (by kernel_rfl) rfl ?_; intro w9 hA hb ho hs; have HB9 := Aside0.mk (hb _ _ GE.out HB8.out); have K9 : Aside0 (w9.heap[g]? = some (.cells #[.int .i64 x.f0, .int .i64 x.f1, .int .i64 x.f2, .int .i64 x.f3, .int .i64 x.f4, .slice P5 x.f5.length p5c, .slice P6 x.f6.length p6c, .slice P7 x.f7.length p7c] 106 (0, 0))) := ⟨hA⟩; have R7 := Aside0.mk (Kd.R_step R6.out (fun k hk _ => ho k hk.2)); have N9 := Aside0.mk (Kd.N_step N8.out (fun k hk _ => ho k (by have := LG6.out; have h := (show w5.heap.size ≤ k from hk); omega))); have M9 := Aside0.mk (Kd.N_step M8.out (fun k hk _ => ho k (by have := LG8.out; have h := (show w7.heap.size ≤ k from hk); omega))); have y0 : w9.cell? ⟨g, 0, none⟩ = some (.int .i64 x.f0) := blk_cell K9.out 0; have y1 : w9.cell? ⟨g, 1, none⟩ = some (.int .i64 x.f1) := blk_cell K9.out 1; have y2 : w9.cell? ⟨g, 2, none⟩ = some (.int .i64 x.f2) := blk_cell K9.out 2; have y3 : w9.cell? ⟨g, 3, none⟩ = some (.int .i64 x.f3) := blk_cell K9.out 3; have y4 : w9.cell? ⟨g, 4, none⟩ = some (.int .i64 x.f4) := blk_cell K9.out 4; have y5 : w9.cell? ⟨g, 5, none⟩ = some (.slice P5 x.f5.length p5c) := blk_cell K9.out 5; have y6 : w9.cell? ⟨g, 6, none⟩ = some (.slice P6 x.f6.length p6c) := blk_cell K9.out 6; have y7 : w9.cell? ⟨g, 7, none⟩ = some (.slice P7 x.f7.length p7c) := blk_cell K9.out 7; clear hA hb ho hs K8 HB8 R6 N8 M8)
        | ((with_reducible refine gate_dst (N := 31) rfl ?_); refine lit_event ?hg (N := 31) ?hd (cs := #[.int .i64 x.f0, .int .i64 x.f1, .int .i64 x.f2, .int .i64 x.f3, .int .i64 x.f4, .slice P5 x.f5.length p5c, .slice P6 x.f6.length p6c, .slice P7 x.f7.length p7c]) (t := 106) (n := 1) ?hr ?_; (case hd => rfl); (case hg => rfl); (case hr => first | (go_simp; done) | (go_simp; rfl)); intro gl hggl wl hA hb; have HBl := Aside0.mk (below_step HB9.out hb); have GLL := Aside0.mk (show wr.heap.size ≤ gl by rw [hggl]; exact HB9.out.size); have FO : Aside0 (Kd.F k106 wl (fun k => wr.heap.size ≤ k) (some ⟨gl, 0, none⟩) 1 [x]) := ⟨F_one (cs := [.int .i64 x.f0, .int .i64 x.f1, .int .i64 x.f2, .int .i64 x.f3, .int .i64 x.f4, .slice P5 x.f5.length p5c, .slice P6 x.f6.length p6c, .slice P7 x.f7.length p7c]) hA GLL.out (FK_106 (Kd.F_mono (Kd.F_below (Kd.R_F R7.out) hb) (fun k hk => hk.1.2.1)) (Kd.R_reads' R7.out).2.1 (Kd.F_mono (Kd.F_below (Kd.N_F N9.out) hb) (fun k hk => Nat.le_trans (by have := HB5z.out; exact this) hk)) (Kd.N_reads' N9.out).2.1 (Kd.F_mono (Kd.F_below (Kd.N_F M9.out) hb) (fun k hk => Nat.le_trans (by have := HB7z.out; exact this) hk)) (Kd.N_reads' M9.out).2.1)⟩; have NLT := Aside0.mk (Kd.N_lt NO.out); clear hggl hb hA R7 N9 M9 HB9 K9 y0 y1 y2 y3 y4 y5 y6 y7)
        | ((with_reducible refine gate_dst (N := 32) rfl ?_); refine Kd.N_append_rows k106 (w0 := wl) 0 rfl (.tmp 29) (.tmp 31) 91 106 (.agg #[.int .i64 0, .int .i64 0, .int .i64 0, .int .i64 0, .int .i64 0, .slice none 0 0, .slice none 0 0, .slice none 0 0]) 112 rfl hu91 (by kernel_rfl) rfl (by decide) (by decide) (.slice AO i cO) (is.take i) [x] (some ⟨gl, 0, none⟩) 1 1 (fun k => w.heap.size ≤ k) (fun k => wr.heap.size ≤ k) ?h1 ?h2 (Kd.N_below NO.out HBl.out) FO.out (fun k hk => ⟨Nat.le_trans HY0.out.size hk, fun e => by have := NLT.out k e.symm; omega⟩) (fun k hk => Nat.le_trans HY0.out.size (Nat.le_trans HBl.out.size hk)) (Below.refl _ _) (Nat.zero_le _) (by have := FL.out; have := HLT.out; rw [List.length_take]; omega) ?_; (case h1 => first | rfl | (simp; done)); (case h2 => rfl); intro v6 w6' hN6 hb6 hgr hat; rw [take_x.out] at hN6; have N10 := Aside0.mk hN6; have FR : Aside0 (Fr wr w6' (fun k => w.heap.size ≤ k)) := ⟨(Fr.of_below HBl.out _).then_ (Fr.grown hgr (fun k hk => NO.out.1 k hk)) (fun k hk => .inl hk)⟩; clear hN6 hb6 hgr hat))
      obtain ⟨A4, c4, hv6⟩ := Kd.N_slice N10.out
      rw [List.length_take, Nat.min_eq_left (by have := HLT.out; omega)] at hv6
      subst hv6
      go_roundg (is.length - (i + 1))
      case measure => have := I1.out; have := HLT.out; omega
      case rel => exact ⟨i + 1, A4, c4, by have := HLT.out; omega, rfl, by go_num, N10.out, ((Fr.of_below HY0.out _).then_ FR.out (fun k hk => .inl hk)).to_below (fun k hk => hk)⟩
    · have dl : decide (i < is.length) = false := decide_eq_false hlt
      have dl2 : decide ((i : Int) < (is.length : Int)) = false := decide_eq_false (by omega)
      have hie : i = is.length := by have := I1.out; omega
      subst hie
      have hN := NO.out
      rw [List.take_length] at hN
      go_wp2
      go_ret
      exact ⟨_, _, rfl, hN, HY0.out⟩
end Go.Proofs.Ytmofdpkddimmlaa.ESame
