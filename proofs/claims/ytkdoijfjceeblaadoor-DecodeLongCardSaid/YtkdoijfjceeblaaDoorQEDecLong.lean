/-
  What the claim leans on, in the order of its making: words about values and worlds, the printed functions, the decoder in plain words and its walk. Cut to what is used by wip/tools/prune15.py. (EDecLong)
-/
import Derived.Test.YtkdoijfjceeblaaDoorQEDecP
namespace Go.Proofs.YtkdoijfjceeblaaDoor.EDec
open Go Go.RowKit Go.Proofs.YtkdoijfjceeblaaDoor.F Go.Proofs.YtkdoijfjceeblaaDoorW.Hand Go.Proofs.YtkdoijfjceeblaaDoorW.PrintWords Go.Proofs.YtkdoijfjceeblaaDoorW.PrintLast Go.Proofs.YtkdoijfjceeblaaDoorW.PrintMore
open Go.Proofs.YtkdoijfjceeblaaDoor.LebGets (G)
open Go.Proofs.YtkdoijfjceeblaaDoor.ENames (Tabs tabs_below nget nmay)
open Go.Proofs.YtkdoijfjceeblaaDoor.EInstr (GRes pGet get_b ret_int wrap_bt)
set_option linter.unusedVariables false
set_option linter.unusedSimpArgs false
theorem lebS_num {x : Int} {q : ByteArray} (h0 : 0 ≤ x) (h1 : x < 4294967296) (hz : (lebS x ++ q).size ≤ 140737488355328) : dNum (lebS x ++ q) 0 = .ok (x, ((lebS x).size : Int)) := by
  have h := lebS_get (p := ⟨#[]⟩) (q := q) h0 h1 (by rw [nil_app]; exact hz)
  rw [nil_app, show ((⟨#[]⟩ : ByteArray).size : Int) = 0 from rfl, Int.zero_add] at h
  unfold dNum
  rw [h]; rfl
theorem list_long {α : Type} {x most : Int} {f : Int → PR α} (h0 : 0 ≤ x) (h1 : x < 4294967296) (h : most < x) : dList (lebS x) most f 0 = .error 1508 := by
  have z := lebS_size x
  have hn := lebS_num (q := ⟨#[]⟩) h0 h1 (by rw [app_nil]; omega)
  rw [app_nil] at hn
  unfold dList
  rw [hn]
  show (if x ≤ most then _ else _) = _
  rw [if_neg (by omega)]
def mostOf (k : Int) : Int := if k = 1 ∨ k = 3 ∨ k = 10 then 256 else 1024
theorem sec_long {k x : Int} (hk : 1 ≤ k ∧ k ≤ 11) (h8 : k ≠ 8) (h0 : 0 ≤ x) (h1 : x < 4294967296) (h : mostOf k < x) : dSec (lebS x) k m0 = .error 1508 := by
  obtain rfl | rfl | rfl | rfl | rfl | rfl | rfl | rfl | rfl | rfl : k = 1 ∨ k = 2 ∨ k = 3 ∨ k = 4 ∨ k = 5 ∨ k = 6 ∨ k = 7 ∨ k = 9 ∨ k = 10 ∨ k = 11 := by omega
  all_goals
    simp (decide := true) only [dSec, mostOf, if_true, if_false] at h ⊢
    rw [list_long h0 h1 (by omega)]
    rfl
theorem long_er {k x : Int} (hk : 1 ≤ k ∧ k ≤ 11) (h8 : k ≠ 8) (h0 : 0 ≤ x) (h1 : x < 4294967296) (h : mostOf k < x) : dMod (({ data := #[0, 97, 115, 109, 1, 0, 0, 0] } : ByteArray) ++ secS k (lebS x)) = .error 1508 := by
  have z := lebS_size x
  have z2 := secS_size k (lebS x)
  rw [mod_one ⟨by omega, hk.2⟩ (by omega), if_neg (by omega), sec_long hk h8 h0 h1 h]
theorem long_most {k : Int} (hk : 1 ≤ k ∧ k ≤ 11) (h8 : k ≠ 8) : dMod (({ data := #[0, 97, 115, 109, 1, 0, 0, 0] } : ByteArray) ++ secS k (lebS (mostOf k))) = .error 1506 := by
  obtain rfl | rfl | rfl | rfl | rfl | rfl | rfl | rfl | rfl | rfl : k = 1 ∨ k = 2 ∨ k = 3 ∨ k = 4 ∨ k = 5 ∨ k = 6 ∨ k = 7 ∨ k = 9 ∨ k = 10 ∨ k = 11 := by omega
  all_goals kernel_rfl
def bigB (n : Nat) : ByteArray := (⟨#[0]⟩ : ByteArray) ++ strOfNums (List.replicate n 0)
theorem bigB_size (n : Nat) : (bigB n).size = 1 + n := by
  rw [bigB, ByteArray.size_append, str_size, List.length_replicate]; rfl
theorem big_name {n : Nat} (hn : n ≤ 100000) : ∃ v, dName (bigB n) 0 = .ok v := by
  have hz := bigB_size n
  have h := lebS_get (p := ⟨#[]⟩) (q := strOfNums (List.replicate n 0)) (x := 0) (by omega) (by omega) (by rw [nil_app, ByteArray.size_append, str_size, List.length_replicate]; have := lebS_size 0; omega)
  rw [nil_app, show ((⟨#[]⟩ : ByteArray).size : Int) = 0 from rfl, show lebS 0 = ⟨#[0]⟩ by kernel_rfl] at h
  have hG : G (bigB n) 0 32 = (0, 1, 0) := h
  have x1 : ¬ ((0 : Int) ≠ 0 ∨ (0 : Int) > ((1 + n : Nat) : Int) - 1) := by omega
  have x2 : Lib.validD ((bigB n).extract ((1 : Int).toNat) ((1 : Int).toNat + (0 : Int).toNat)).data.toList = true := by
    have : ((bigB n).extract ((1 : Int).toNat) ((1 : Int).toNat + (0 : Int).toNat)).data.toList = [] := by simp
    rw [this]; exact (by kernel_rfl : Lib.validD [] = true)
  have hN : nget (bigB n) 0 = ((bigB n).extract ((1 : Int).toNat) ((1 : Int).toNat + (0 : Int).toNat), 1 + 0, 0) := by
    unfold nget
    simp only [hG]
    rw [hz, if_neg x1, if_neg (by decide : ¬ (0 : Int) > 64), if_pos x2]
  exact ⟨((bigB n).extract ((1 : Int).toNat) ((1 : Int).toNat + (0 : Int).toNat), 1 + 0), by unfold dName; rw [hN, if_neg (by simp), if_pos rfl]⟩
theorem big_size {n : Nat} (h1 : 65523 ≤ n) (h2 : n ≤ 65526) : (secS 0 (bigB n)).size = n + 5 := by
  have hz := bigB_size n
  have hl : (lebS (bigB n).size).size = 3 := by
    rw [hz]
    obtain rfl | rfl | rfl | rfl : n = 65523 ∨ n = 65524 ∨ n = 65525 ∨ n = 65526 := by omega
    all_goals kernel_rfl
  rw [secS, ByteArray.size_append, ByteArray.size_append, str_size, hl, hz]
  simp only [List.length_cons, List.length_nil]
  omega
theorem big_mod {n : Nat} (h1 : 65523 ≤ n) (h2 : n ≤ 65526) : dMod (({ data := #[0, 97, 115, 109, 1, 0, 0, 0] } : ByteArray) ++ secS 0 (bigB n)) = if n = 65523 then .ok m0 else .error 1508 := by
  have hz := bigB_size n
  have hs := big_size h1 h2
  obtain ⟨v, hv⟩ := big_name (n := n) (by omega)
  have hd : dSec (bigB n) 0 m0 = .ok m0 := by
    unfold dSec
    rw [if_pos rfl, hv]
  rw [mod_one ⟨by omega, by omega⟩ (by omega), hs, hd]
  by_cases h : n = 65523
  · rw [if_neg (by omega), if_pos h]
    rfl
  · rw [if_pos (by omega), if_neg h]
set_option maxHeartbeats 8000000 in
set_option maxRecDepth 100000 in
theorem long_ok (a0 a1 : Int) (x z y M : Int) (n : Nat) (W : World) (hz : wrap64 (1 + wrap64 ((IntKind.u64.wrap a0).tmod 11)) = z) (hx : (z == 8) = true ∧ x = 2 ∨ (z == 8) = false ∧ x = z) (rx : 1 ≤ x ∧ x ≤ 11) (h8 : x ≠ 8)
    (hM : (x == 1) = true ∧ M = 256 ∨ (x == 1) = false ∧ (x == 3) = true ∧ M = 256 ∨ (x == 1) = false ∧ (x == 3) = false ∧ (x == 10) = true ∧ M = 256 ∨ (x == 1) = false ∧ (x == 3) = false ∧ (x == 10) = false ∧ M = 1024)
    (hMo : mostOf x = M) (e1 : M + 1 + Go.bits .and .i64 a1 1023 = y) (h1 : M < y) (h2 : y ≤ 4000) (e3 : 65523 + Go.bits .and .i64 a1 3 = (n : Int)) (hn1 : 65523 ≤ n) (hn2 : n ≤ 65526) (hn : n = 65523) (hT : Tabs W) : Calls Tryd.prog 9 #[.int .i64 a0, .int .i64 a1] W fun e w' => e = .returned (.bool true) ∧ Below W.heap.size W w' := by
  have HT := Aside0.mk hT
  have HB0 := Aside0.mk (Below.refl W.heap.size W)
  have hM2 : M = 256 ∨ M = 1024 := by rcases hM with h | h | h | h <;> omega
  have EA := Aside0.mk (long_er (x := y) rx h8 (by omega) (by omega) (by rw [hMo]; exact h1))
  have hb := long_most rx h8
  rw [hMo] at hb
  have EB := Aside0.mk hb
  have hc := big_mod hn1 hn2
  rw [if_pos hn] at hc
  have zb := bigB_size n
  have zs := big_size hn1 hn2
  have hbig : ({ data := #[0, 97, 115, 109, 1, 0, 0, 0] } : ByteArray) ++ secS 0 ((⟨#[0]⟩ : ByteArray) ++ strOfNums (List.replicate n 0)) = ({ data := #[0, 97, 115, 109, 1, 0, 0, 0] } : ByteArray) ++ secS 0 (bigB n) := rfl
  have zB : (({ data := #[0, 97, 115, 109, 1, 0, 0, 0] } : ByteArray) ++ secS 0 (bigB n)).size = n + 13 := by rw [ByteArray.size_append, zs, show (({ data := #[0, 97, 115, 109, 1, 0, 0, 0] } : ByteArray)).size = 8 from rfl]; omega
  generalize ({ data := #[0, 97, 115, 109, 1, 0, 0, 0] } : ByteArray) ++ secS 0 (bigB n) = B at *
  have EC := Aside0.mk hc
  have SN := Aside0.mk (show ((⟨#[0]⟩ : ByteArray) ++ strOfNums (List.replicate n 0)).size ≤ 140737488355328 by rw [← bigB, zb]; omega)
  have SY := Aside0.mk (show (lebS y).size ≤ 140737488355328 by have := lebS_size y; omega)
  have SM := Aside0.mk (show (lebS M).size ≤ 140737488355328 by have := lebS_size M; omega)
  have hmk := fun W => make8 n (by omega) W
  have n1 := sum_ok (a := 8) (b := (secS x (lebS y)).size) (by have := secS_size x (lebS y); have := lebS_size y; omega)
  have n2 := sum_ok (a := 8) (b := (secS x (lebS M)).size) (by have := secS_size x (lebS M); have := lebS_size M; omega)
  have n3 := sum_ok (a := 1) (b := (strOfNums (List.replicate n 0)).size) (by have := str_size (List.replicate n 0); rw [List.length_replicate] at this; omega)
  have n4 := sum_ok (a := 8) (b := (secS 0 ((⟨#[0]⟩ : ByteArray) ++ strOfNums (List.replicate n 0))).size) (by rw [← bigB, zs]; omega)
  have b1 : (0 : Int) ≤ y := by omega
  have b2 : y ≤ 4000 := h2
  have b3 : 1 ≤ x := rx.1
  have b4 : x ≤ 11 := rx.2
  have b5 : (65523 : Int) ≤ (n : Int) := by omega
  have b6 : (n : Int) ≤ 65526 := by omega
  have dl : decide ((B.size : Int) ≤ 65536) = true := by rw [zB]; simp; omega
  clear hc hb hMo h1 h2 hn1 hn2 hn rx zb zs zB h8 hT
  rcases hx with ⟨e8, rfl⟩ | ⟨e8, rfl⟩
  · have c1 : ((2 : Int) == 1) = false := by decide
    have c3 : ((2 : Int) == 3) = false := by decide
    have c10 : ((2 : Int) == 10) = false := by decide
    obtain rfl : M = 1024 := by
      rcases hM with h | h | h | h
      · exact absurd h.1 (by decide)
      · exact absurd h.2.1 (by decide)
      · exact absurd h.2.2.1 (by decide)
      · exact h.2.2.2
    clear hM hM2
    simp only [Int.reduceAdd] at e1
    go_enter Tryd.func9, Tryd.ntmps9
    go_wp2_with (first
      | (go_at_call 12; (with_reducible refine (awake_c HT.out HB0.out).mono ?_); rintro e w1 ⟨rfl, hb⟩; have HB1 := Aside0.mk hb; clear hb HB0)
      | (go_at_call 17; (with_reducible refine (leb_is _ HB1.out).mono ?_); rintro e w2 ⟨rfl, hb⟩; have HB2 := Aside0.mk hb; clear hb HB1)
      | (go_at_call 20; (with_reducible refine (section_is _ _ SY.out HB2.out).mono ?_); rintro e w3 ⟨rfl, hb⟩; have HB3 := Aside0.mk hb; clear hb HB2)
      | (go_at_call 13; (with_reducible refine (mod_er_c EA.out HT.out HB3.out).mono ?_); rintro e w4 ⟨rfl, hb⟩; have HB4 := Aside0.mk hb; clear hb HB3)
      | ((with_reducible refine gate_dst (N := 7) rfl ?_); refine box_event ?hg (N := 7) ?hd (cs := #[.slice none 0 0, .slice none 0 0, .slice none 0 0, .slice none 0 0, .slice none 0 0, .slice none 0 0, .slice none 0 0, .int .i64 0, .slice none 0 0, .slice none 0 0, .slice none 0 0]) (t := 33) ?hr ?_; (case hd => rfl); (case hg => rfl); (case hr => first | (go_simp; done) | (go_simp; rfl)); intro q1 hgq1 w5 hA hb; have Jq1 := Aside0.mk hA; have Mq1 := Aside0.mk (show W.heap.size ≤ q1 by have := HB4.out.size; omega); have hb := HB4.out.trans (hb.mono HB4.out.size); have HB5 := Aside0.mk hb; clear hb HB4; clear hA hgq1)
      | ((with_reducible refine gate_store (p := 7) rfl ?_); refine storeRow_event (g := q1) rfl rfl rfl (cs := #[.slice none 0 0, .slice none 0 0, .slice none 0 0, .slice none 0 0, .slice none 0 0, .slice none 0 0, .slice none 0 0, .int .i64 0, .slice none 0 0, .slice none 0 0, .slice none 0 0]) rfl rfl Jq1.out (by kernel_rfl) rfl (by simp [Value.oneCell']) ?_; intro w6 hA hb ho hs; have hb := hb W.heap.size W Mq1.out HB5.out; have HB6 := Aside0.mk hb; clear hb HB5; clear hA ho hs Jq1 Mq1)
      | (go_at_call 17; (with_reducible refine (leb_is _ HB6.out).mono ?_); rintro e w7 ⟨rfl, hb⟩; have HB7 := Aside0.mk hb; clear hb HB6)
      | (go_at_call 20; (with_reducible refine (section_is _ _ SM.out HB7.out).mono ?_); rintro e w8 ⟨rfl, hb⟩; have HB8 := Aside0.mk hb; clear hb HB7)
      | (go_at_call 13; (with_reducible refine (mod_er_c EB.out HT.out HB8.out).mono ?_); rintro e w9 ⟨rfl, hb⟩; have HB9 := Aside0.mk hb; clear hb HB8)
      | ((with_reducible refine gate_dst (N := 9) rfl ?_); refine box_event ?hg (N := 9) ?hd (cs := #[.slice none 0 0, .slice none 0 0, .slice none 0 0, .slice none 0 0, .slice none 0 0, .slice none 0 0, .slice none 0 0, .int .i64 0, .slice none 0 0, .slice none 0 0, .slice none 0 0]) (t := 33) ?hr ?_; (case hd => rfl); (case hg => rfl); (case hr => first | (go_simp; done) | (go_simp; rfl)); intro q2 hgq2 w10 hA hb; have Jq2 := Aside0.mk hA; have Mq2 := Aside0.mk (show W.heap.size ≤ q2 by have := HB9.out.size; omega); have hb := HB9.out.trans (hb.mono HB9.out.size); have HB10 := Aside0.mk hb; clear hb HB9; clear hA hgq2)
      | ((with_reducible refine gate_store (p := 9) rfl ?_); refine storeRow_event (g := q2) rfl rfl rfl (cs := #[.slice none 0 0, .slice none 0 0, .slice none 0 0, .slice none 0 0, .slice none 0 0, .slice none 0 0, .slice none 0 0, .int .i64 0, .slice none 0 0, .slice none 0 0, .slice none 0 0]) rfl rfl Jq2.out (by kernel_rfl) rfl (by simp [Value.oneCell']) ?_; intro w11 hA hb ho hs; have hb := hb W.heap.size W Mq2.out HB10.out; have HB11 := Aside0.mk hb; clear hb HB10; clear hA ho hs Jq2 Mq2)
      | ((with_reducible refine gate_dst (N := 54) rfl ?_); refine lit_event ?hg (N := 54) ?hd (cs := ((List.replicate n (0 : Int)).map (Value.int .u8)).toArray) (t := 5) (n := n) ?hr ?_; (case hd => rfl); (case hg => rfl); (case hr => first | (go_simp; done) | (go_simp; rfl)); intro q3 hgq3 w12 hA hb; have cq3 : (convert 48 9 (.slice (some ⟨q3, 0, none⟩) n n)).run Tryd.prog w12 = .ok (.string (strOfNums (List.replicate n 0))) _ := conv_rep hA; have HB12 := Aside0.mk (below_step HB11.out hb); clear hb HB11; clear hA hgq3)
      | (go_at_call 20; (with_reducible refine (section_is _ _ SN.out HB12.out).mono ?_); rintro e w13 ⟨rfl, hb⟩; have HB13 := Aside0.mk hb; clear hb HB12)
      | (go_at_call 13; (with_reducible refine (mod_ok_c EC.out HT.out HB13.out).mono ?_); rintro e w14 ⟨A0, c0, A1, c1, A2, c2, A3, c3, A4, c4, A5, c5, A6, c6, A8, c8, A9, c9, A10, c10, rfl, hV, hb⟩; have HB14 := Aside0.mk hb; clear hb HB13; clear hV)
      | ((with_reducible refine gate_dst (N := 12) rfl ?_); refine box_event ?hg (N := 12) ?hd (cs := #[.slice none 0 0, .slice none 0 0, .slice none 0 0, .slice none 0 0, .slice none 0 0, .slice none 0 0, .slice none 0 0, .int .i64 0, .slice none 0 0, .slice none 0 0, .slice none 0 0]) (t := 33) ?hr ?_; (case hd => rfl); (case hg => rfl); (case hr => first | (go_simp; done) | (go_simp; rfl)); intro q4 hgq4 w15 hA hb; have Jq4 := Aside0.mk hA; have Mq4 := Aside0.mk (show W.heap.size ≤ q4 by have := HB14.out.size; omega); have hb := HB14.out.trans (hb.mono HB14.out.size); have HB15 := Aside0.mk hb; clear hb HB14; clear hA hgq4)
      | ((with_reducible refine gate_store (p := 12) rfl ?_); refine storeRow_event (g := q4) rfl rfl rfl (cs := #[.slice A0 m0.types.length c0, .slice A1 m0.imports.length c1, .slice A2 m0.funcs.length c2, .slice A3 m0.tables.length c3, .slice A4 m0.mems.length c4, .slice A5 m0.globals.length c5, .slice A6 m0.exports.length c6, .int .i64 m0.start, .slice A8 m0.elems.length c8, .slice A9 m0.codes.length c9, .slice A10 m0.datas.length c10]) rfl rfl Jq4.out (by kernel_rfl) rfl (by simp [Value.oneCell']) ?_; intro w16 hA hb ho hs; have hb := hb W.heap.size W Mq4.out HB15.out; have HB16 := Aside0.mk hb; clear hb HB15; clear hA ho hs Jq4 Mq4)
      | (go_at_call 14; (with_reducible refine (num_is _ HB16.out).mono ?_); rintro e w17 ⟨rfl, hb⟩; have HB17 := Aside0.mk hb; clear hb HB16)
      | (go_at_call 14; (with_reducible refine (num_is _ HB17.out).mono ?_); rintro e w18 ⟨rfl, hb⟩; have HB18 := Aside0.mk hb; clear hb HB17)
      | (go_at_call 14; (with_reducible refine (num_is _ HB18.out).mono ?_); rintro e w19 ⟨rfl, hb⟩; have HB19 := Aside0.mk hb; clear hb HB18))
    go_ret
    exact ⟨rfl, HB19.out⟩
  · clear hM2
    rcases hM with ⟨c1, rfl⟩ | ⟨c1, c3, rfl⟩ | ⟨c1, c3, c10, rfl⟩ | ⟨c1, c3, c10, rfl⟩
    all_goals
      simp only [Int.reduceAdd] at e1
      go_enter Tryd.func9, Tryd.ntmps9
      go_wp2_with (first
        | (go_at_call 12; (with_reducible refine (awake_c HT.out HB0.out).mono ?_); rintro e w1 ⟨rfl, hb⟩; have HB1 := Aside0.mk hb; clear hb HB0)
        | (go_at_call 17; (with_reducible refine (leb_is _ HB1.out).mono ?_); rintro e w2 ⟨rfl, hb⟩; have HB2 := Aside0.mk hb; clear hb HB1)
        | (go_at_call 20; (with_reducible refine (section_is _ _ SY.out HB2.out).mono ?_); rintro e w3 ⟨rfl, hb⟩; have HB3 := Aside0.mk hb; clear hb HB2)
        | (go_at_call 13; (with_reducible refine (mod_er_c EA.out HT.out HB3.out).mono ?_); rintro e w4 ⟨rfl, hb⟩; have HB4 := Aside0.mk hb; clear hb HB3)
        | ((with_reducible refine gate_dst (N := 7) rfl ?_); refine box_event ?hg (N := 7) ?hd (cs := #[.slice none 0 0, .slice none 0 0, .slice none 0 0, .slice none 0 0, .slice none 0 0, .slice none 0 0, .slice none 0 0, .int .i64 0, .slice none 0 0, .slice none 0 0, .slice none 0 0]) (t := 33) ?hr ?_; (case hd => rfl); (case hg => rfl); (case hr => first | (go_simp; done) | (go_simp; rfl)); intro q1 hgq1 w5 hA hb; have Jq1 := Aside0.mk hA; have Mq1 := Aside0.mk (show W.heap.size ≤ q1 by have := HB4.out.size; omega); have hb := HB4.out.trans (hb.mono HB4.out.size); have HB5 := Aside0.mk hb; clear hb HB4; clear hA hgq1)
        | ((with_reducible refine gate_store (p := 7) rfl ?_); refine storeRow_event (g := q1) rfl rfl rfl (cs := #[.slice none 0 0, .slice none 0 0, .slice none 0 0, .slice none 0 0, .slice none 0 0, .slice none 0 0, .slice none 0 0, .int .i64 0, .slice none 0 0, .slice none 0 0, .slice none 0 0]) rfl rfl Jq1.out (by kernel_rfl) rfl (by simp [Value.oneCell']) ?_; intro w6 hA hb ho hs; have hb := hb W.heap.size W Mq1.out HB5.out; have HB6 := Aside0.mk hb; clear hb HB5; clear hA ho hs Jq1 Mq1)
        | (go_at_call 17; (with_reducible refine (leb_is _ HB6.out).mono ?_); rintro e w7 ⟨rfl, hb⟩; have HB7 := Aside0.mk hb; clear hb HB6)
        | (go_at_call 20; (with_reducible refine (section_is _ _ SM.out HB7.out).mono ?_); rintro e w8 ⟨rfl, hb⟩; have HB8 := Aside0.mk hb; clear hb HB7)
        | (go_at_call 13; (with_reducible refine (mod_er_c EB.out HT.out HB8.out).mono ?_); rintro e w9 ⟨rfl, hb⟩; have HB9 := Aside0.mk hb; clear hb HB8)
        | ((with_reducible refine gate_dst (N := 9) rfl ?_); refine box_event ?hg (N := 9) ?hd (cs := #[.slice none 0 0, .slice none 0 0, .slice none 0 0, .slice none 0 0, .slice none 0 0, .slice none 0 0, .slice none 0 0, .int .i64 0, .slice none 0 0, .slice none 0 0, .slice none 0 0]) (t := 33) ?hr ?_; (case hd => rfl); (case hg => rfl); (case hr => first | (go_simp; done) | (go_simp; rfl)); intro q2 hgq2 w10 hA hb; have Jq2 := Aside0.mk hA; have Mq2 := Aside0.mk (show W.heap.size ≤ q2 by have := HB9.out.size; omega); have hb := HB9.out.trans (hb.mono HB9.out.size); have HB10 := Aside0.mk hb; clear hb HB9; clear hA hgq2)
        | ((with_reducible refine gate_store (p := 9) rfl ?_); refine storeRow_event (g := q2) rfl rfl rfl (cs := #[.slice none 0 0, .slice none 0 0, .slice none 0 0, .slice none 0 0, .slice none 0 0, .slice none 0 0, .slice none 0 0, .int .i64 0, .slice none 0 0, .slice none 0 0, .slice none 0 0]) rfl rfl Jq2.out (by kernel_rfl) rfl (by simp [Value.oneCell']) ?_; intro w11 hA hb ho hs; have hb := hb W.heap.size W Mq2.out HB10.out; have HB11 := Aside0.mk hb; clear hb HB10; clear hA ho hs Jq2 Mq2)
        | ((with_reducible refine gate_dst (N := 54) rfl ?_); refine lit_event ?hg (N := 54) ?hd (cs := ((List.replicate n (0 : Int)).map (Value.int .u8)).toArray) (t := 5) (n := n) ?hr ?_; (case hd => rfl); (case hg => rfl); (case hr => first | (go_simp; done) | (go_simp; rfl)); intro q3 hgq3 w12 hA hb; have cq3 : (convert 48 9 (.slice (some ⟨q3, 0, none⟩) n n)).run Tryd.prog w12 = .ok (.string (strOfNums (List.replicate n 0))) _ := conv_rep hA; have HB12 := Aside0.mk (below_step HB11.out hb); clear hb HB11; clear hA hgq3)
        | (go_at_call 20; (with_reducible refine (section_is _ _ SN.out HB12.out).mono ?_); rintro e w13 ⟨rfl, hb⟩; have HB13 := Aside0.mk hb; clear hb HB12)
        | (go_at_call 13; (with_reducible refine (mod_ok_c EC.out HT.out HB13.out).mono ?_); rintro e w14 ⟨A0, c0, A1, c1, A2, c2, A3, c3, A4, c4, A5, c5, A6, c6, A8, c8, A9, c9, A10, c10, rfl, hV, hb⟩; have HB14 := Aside0.mk hb; clear hb HB13; clear hV)
        | ((with_reducible refine gate_dst (N := 12) rfl ?_); refine box_event ?hg (N := 12) ?hd (cs := #[.slice none 0 0, .slice none 0 0, .slice none 0 0, .slice none 0 0, .slice none 0 0, .slice none 0 0, .slice none 0 0, .int .i64 0, .slice none 0 0, .slice none 0 0, .slice none 0 0]) (t := 33) ?hr ?_; (case hd => rfl); (case hg => rfl); (case hr => first | (go_simp; done) | (go_simp; rfl)); intro q4 hgq4 w15 hA hb; have Jq4 := Aside0.mk hA; have Mq4 := Aside0.mk (show W.heap.size ≤ q4 by have := HB14.out.size; omega); have hb := HB14.out.trans (hb.mono HB14.out.size); have HB15 := Aside0.mk hb; clear hb HB14; clear hA hgq4)
        | ((with_reducible refine gate_store (p := 12) rfl ?_); refine storeRow_event (g := q4) rfl rfl rfl (cs := #[.slice A0 m0.types.length c0, .slice A1 m0.imports.length c1, .slice A2 m0.funcs.length c2, .slice A3 m0.tables.length c3, .slice A4 m0.mems.length c4, .slice A5 m0.globals.length c5, .slice A6 m0.exports.length c6, .int .i64 m0.start, .slice A8 m0.elems.length c8, .slice A9 m0.codes.length c9, .slice A10 m0.datas.length c10]) rfl rfl Jq4.out (by kernel_rfl) rfl (by simp [Value.oneCell']) ?_; intro w16 hA hb ho hs; have hb := hb W.heap.size W Mq4.out HB15.out; have HB16 := Aside0.mk hb; clear hb HB15; clear hA ho hs Jq4 Mq4)
        | (go_at_call 14; (with_reducible refine (num_is _ HB16.out).mono ?_); rintro e w17 ⟨rfl, hb⟩; have HB17 := Aside0.mk hb; clear hb HB16)
        | (go_at_call 14; (with_reducible refine (num_is _ HB17.out).mono ?_); rintro e w18 ⟨rfl, hb⟩; have HB18 := Aside0.mk hb; clear hb HB17)
        | (go_at_call 14; (with_reducible refine (num_is _ HB18.out).mono ?_); rintro e w19 ⟨rfl, hb⟩; have HB19 := Aside0.mk hb; clear hb HB18))
      go_ret
      exact ⟨rfl, HB19.out⟩
set_option maxHeartbeats 8000000 in
set_option maxRecDepth 100000 in
theorem long_er2 (a0 a1 : Int) (x z y M : Int) (n : Nat) (W : World) (hz : wrap64 (1 + wrap64 ((IntKind.u64.wrap a0).tmod 11)) = z) (hx : (z == 8) = true ∧ x = 2 ∨ (z == 8) = false ∧ x = z) (rx : 1 ≤ x ∧ x ≤ 11) (h8 : x ≠ 8)
    (hM : (x == 1) = true ∧ M = 256 ∨ (x == 1) = false ∧ (x == 3) = true ∧ M = 256 ∨ (x == 1) = false ∧ (x == 3) = false ∧ (x == 10) = true ∧ M = 256 ∨ (x == 1) = false ∧ (x == 3) = false ∧ (x == 10) = false ∧ M = 1024)
    (hMo : mostOf x = M) (e1 : M + 1 + Go.bits .and .i64 a1 1023 = y) (h1 : M < y) (h2 : y ≤ 4000) (e3 : 65523 + Go.bits .and .i64 a1 3 = (n : Int)) (hn1 : 65523 ≤ n) (hn2 : n ≤ 65526) (hn : n ≠ 65523) (hT : Tabs W) : Calls Tryd.prog 9 #[.int .i64 a0, .int .i64 a1] W fun e w' => e = .returned (.bool true) ∧ Below W.heap.size W w' := by
  have HT := Aside0.mk hT
  have HB0 := Aside0.mk (Below.refl W.heap.size W)
  have hM2 : M = 256 ∨ M = 1024 := by rcases hM with h | h | h | h <;> omega
  have EA := Aside0.mk (long_er (x := y) rx h8 (by omega) (by omega) (by rw [hMo]; exact h1))
  have hb := long_most rx h8
  rw [hMo] at hb
  have EB := Aside0.mk hb
  have hc := big_mod hn1 hn2
  rw [if_neg hn] at hc
  have zb := bigB_size n
  have zs := big_size hn1 hn2
  have hbig : ({ data := #[0, 97, 115, 109, 1, 0, 0, 0] } : ByteArray) ++ secS 0 ((⟨#[0]⟩ : ByteArray) ++ strOfNums (List.replicate n 0)) = ({ data := #[0, 97, 115, 109, 1, 0, 0, 0] } : ByteArray) ++ secS 0 (bigB n) := rfl
  have zB : (({ data := #[0, 97, 115, 109, 1, 0, 0, 0] } : ByteArray) ++ secS 0 (bigB n)).size = n + 13 := by rw [ByteArray.size_append, zs, show (({ data := #[0, 97, 115, 109, 1, 0, 0, 0] } : ByteArray)).size = 8 from rfl]; omega
  generalize ({ data := #[0, 97, 115, 109, 1, 0, 0, 0] } : ByteArray) ++ secS 0 (bigB n) = B at *
  have EC := Aside0.mk hc
  have SN := Aside0.mk (show ((⟨#[0]⟩ : ByteArray) ++ strOfNums (List.replicate n 0)).size ≤ 140737488355328 by rw [← bigB, zb]; omega)
  have SY := Aside0.mk (show (lebS y).size ≤ 140737488355328 by have := lebS_size y; omega)
  have SM := Aside0.mk (show (lebS M).size ≤ 140737488355328 by have := lebS_size M; omega)
  have hmk := fun W => make8 n (by omega) W
  have n1 := sum_ok (a := 8) (b := (secS x (lebS y)).size) (by have := secS_size x (lebS y); have := lebS_size y; omega)
  have n2 := sum_ok (a := 8) (b := (secS x (lebS M)).size) (by have := secS_size x (lebS M); have := lebS_size M; omega)
  have n3 := sum_ok (a := 1) (b := (strOfNums (List.replicate n 0)).size) (by have := str_size (List.replicate n 0); rw [List.length_replicate] at this; omega)
  have n4 := sum_ok (a := 8) (b := (secS 0 ((⟨#[0]⟩ : ByteArray) ++ strOfNums (List.replicate n 0))).size) (by rw [← bigB, zs]; omega)
  have b1 : (0 : Int) ≤ y := by omega
  have b2 : y ≤ 4000 := h2
  have b3 : 1 ≤ x := rx.1
  have b4 : x ≤ 11 := rx.2
  have b5 : (65523 : Int) ≤ (n : Int) := by omega
  have b6 : (n : Int) ≤ 65526 := by omega
  have dl : decide ((B.size : Int) ≤ 65536) = false := by rw [zB]; simp; omega
  clear hc hb hMo h1 h2 hn1 hn2 hn rx zb zs zB h8 hT
  rcases hx with ⟨e8, rfl⟩ | ⟨e8, rfl⟩
  · have c1 : ((2 : Int) == 1) = false := by decide
    have c3 : ((2 : Int) == 3) = false := by decide
    have c10 : ((2 : Int) == 10) = false := by decide
    obtain rfl : M = 1024 := by
      rcases hM with h | h | h | h
      · exact absurd h.1 (by decide)
      · exact absurd h.2.1 (by decide)
      · exact absurd h.2.2.1 (by decide)
      · exact h.2.2.2
    clear hM hM2
    simp only [Int.reduceAdd] at e1
    go_enter Tryd.func9, Tryd.ntmps9
    go_wp2_with (first
      | (go_at_call 12; (with_reducible refine (awake_c HT.out HB0.out).mono ?_); rintro e w1 ⟨rfl, hb⟩; have HB1 := Aside0.mk hb; clear hb HB0)
      | (go_at_call 17; (with_reducible refine (leb_is _ HB1.out).mono ?_); rintro e w2 ⟨rfl, hb⟩; have HB2 := Aside0.mk hb; clear hb HB1)
      | (go_at_call 20; (with_reducible refine (section_is _ _ SY.out HB2.out).mono ?_); rintro e w3 ⟨rfl, hb⟩; have HB3 := Aside0.mk hb; clear hb HB2)
      | (go_at_call 13; (with_reducible refine (mod_er_c EA.out HT.out HB3.out).mono ?_); rintro e w4 ⟨rfl, hb⟩; have HB4 := Aside0.mk hb; clear hb HB3)
      | ((with_reducible refine gate_dst (N := 7) rfl ?_); refine box_event ?hg (N := 7) ?hd (cs := #[.slice none 0 0, .slice none 0 0, .slice none 0 0, .slice none 0 0, .slice none 0 0, .slice none 0 0, .slice none 0 0, .int .i64 0, .slice none 0 0, .slice none 0 0, .slice none 0 0]) (t := 33) ?hr ?_; (case hd => rfl); (case hg => rfl); (case hr => first | (go_simp; done) | (go_simp; rfl)); intro q1 hgq1 w5 hA hb; have Jq1 := Aside0.mk hA; have Mq1 := Aside0.mk (show W.heap.size ≤ q1 by have := HB4.out.size; omega); have hb := HB4.out.trans (hb.mono HB4.out.size); have HB5 := Aside0.mk hb; clear hb HB4; clear hA hgq1)
      | ((with_reducible refine gate_store (p := 7) rfl ?_); refine storeRow_event (g := q1) rfl rfl rfl (cs := #[.slice none 0 0, .slice none 0 0, .slice none 0 0, .slice none 0 0, .slice none 0 0, .slice none 0 0, .slice none 0 0, .int .i64 0, .slice none 0 0, .slice none 0 0, .slice none 0 0]) rfl rfl Jq1.out (by kernel_rfl) rfl (by simp [Value.oneCell']) ?_; intro w6 hA hb ho hs; have hb := hb W.heap.size W Mq1.out HB5.out; have HB6 := Aside0.mk hb; clear hb HB5; clear hA ho hs Jq1 Mq1)
      | (go_at_call 17; (with_reducible refine (leb_is _ HB6.out).mono ?_); rintro e w7 ⟨rfl, hb⟩; have HB7 := Aside0.mk hb; clear hb HB6)
      | (go_at_call 20; (with_reducible refine (section_is _ _ SM.out HB7.out).mono ?_); rintro e w8 ⟨rfl, hb⟩; have HB8 := Aside0.mk hb; clear hb HB7)
      | (go_at_call 13; (with_reducible refine (mod_er_c EB.out HT.out HB8.out).mono ?_); rintro e w9 ⟨rfl, hb⟩; have HB9 := Aside0.mk hb; clear hb HB8)
      | ((with_reducible refine gate_dst (N := 9) rfl ?_); refine box_event ?hg (N := 9) ?hd (cs := #[.slice none 0 0, .slice none 0 0, .slice none 0 0, .slice none 0 0, .slice none 0 0, .slice none 0 0, .slice none 0 0, .int .i64 0, .slice none 0 0, .slice none 0 0, .slice none 0 0]) (t := 33) ?hr ?_; (case hd => rfl); (case hg => rfl); (case hr => first | (go_simp; done) | (go_simp; rfl)); intro q2 hgq2 w10 hA hb; have Jq2 := Aside0.mk hA; have Mq2 := Aside0.mk (show W.heap.size ≤ q2 by have := HB9.out.size; omega); have hb := HB9.out.trans (hb.mono HB9.out.size); have HB10 := Aside0.mk hb; clear hb HB9; clear hA hgq2)
      | ((with_reducible refine gate_store (p := 9) rfl ?_); refine storeRow_event (g := q2) rfl rfl rfl (cs := #[.slice none 0 0, .slice none 0 0, .slice none 0 0, .slice none 0 0, .slice none 0 0, .slice none 0 0, .slice none 0 0, .int .i64 0, .slice none 0 0, .slice none 0 0, .slice none 0 0]) rfl rfl Jq2.out (by kernel_rfl) rfl (by simp [Value.oneCell']) ?_; intro w11 hA hb ho hs; have hb := hb W.heap.size W Mq2.out HB10.out; have HB11 := Aside0.mk hb; clear hb HB10; clear hA ho hs Jq2 Mq2)
      | ((with_reducible refine gate_dst (N := 54) rfl ?_); refine lit_event ?hg (N := 54) ?hd (cs := ((List.replicate n (0 : Int)).map (Value.int .u8)).toArray) (t := 5) (n := n) ?hr ?_; (case hd => rfl); (case hg => rfl); (case hr => first | (go_simp; done) | (go_simp; rfl)); intro q3 hgq3 w12 hA hb; have cq3 : (convert 48 9 (.slice (some ⟨q3, 0, none⟩) n n)).run Tryd.prog w12 = .ok (.string (strOfNums (List.replicate n 0))) _ := conv_rep hA; have HB12 := Aside0.mk (below_step HB11.out hb); clear hb HB11; clear hA hgq3)
      | (go_at_call 20; (with_reducible refine (section_is _ _ SN.out HB12.out).mono ?_); rintro e w13 ⟨rfl, hb⟩; have HB13 := Aside0.mk hb; clear hb HB12)
      | (go_at_call 13; (with_reducible refine (mod_er_c EC.out HT.out HB13.out).mono ?_); rintro e w14 ⟨rfl, hb⟩; have HB14 := Aside0.mk hb; clear hb HB13)
      | ((with_reducible refine gate_dst (N := 12) rfl ?_); refine box_event ?hg (N := 12) ?hd (cs := #[.slice none 0 0, .slice none 0 0, .slice none 0 0, .slice none 0 0, .slice none 0 0, .slice none 0 0, .slice none 0 0, .int .i64 0, .slice none 0 0, .slice none 0 0, .slice none 0 0]) (t := 33) ?hr ?_; (case hd => rfl); (case hg => rfl); (case hr => first | (go_simp; done) | (go_simp; rfl)); intro q4 hgq4 w15 hA hb; have Jq4 := Aside0.mk hA; have Mq4 := Aside0.mk (show W.heap.size ≤ q4 by have := HB14.out.size; omega); have hb := HB14.out.trans (hb.mono HB14.out.size); have HB15 := Aside0.mk hb; clear hb HB14; clear hA hgq4)
      | ((with_reducible refine gate_store (p := 12) rfl ?_); refine storeRow_event (g := q4) rfl rfl rfl (cs := #[.slice none 0 0, .slice none 0 0, .slice none 0 0, .slice none 0 0, .slice none 0 0, .slice none 0 0, .slice none 0 0, .int .i64 0, .slice none 0 0, .slice none 0 0, .slice none 0 0]) rfl rfl Jq4.out (by kernel_rfl) rfl (by simp [Value.oneCell']) ?_; intro w16 hA hb ho hs; have hb := hb W.heap.size W Mq4.out HB15.out; have HB16 := Aside0.mk hb; clear hb HB15; clear hA ho hs Jq4 Mq4)
      | (go_at_call 14; (with_reducible refine (num_is _ HB16.out).mono ?_); rintro e w17 ⟨rfl, hb⟩; have HB17 := Aside0.mk hb; clear hb HB16)
      | (go_at_call 14; (with_reducible refine (num_is _ HB17.out).mono ?_); rintro e w18 ⟨rfl, hb⟩; have HB18 := Aside0.mk hb; clear hb HB17)
      | (go_at_call 14; (with_reducible refine (num_is _ HB18.out).mono ?_); rintro e w19 ⟨rfl, hb⟩; have HB19 := Aside0.mk hb; clear hb HB18)
      | (go_at_call 14; (with_reducible refine (num_is _ HB19.out).mono ?_); rintro e w20 ⟨rfl, hb⟩; have HB20 := Aside0.mk hb; clear hb HB19))
    go_ret
    exact ⟨rfl, HB20.out⟩
  · clear hM2
    rcases hM with ⟨c1, rfl⟩ | ⟨c1, c3, rfl⟩ | ⟨c1, c3, c10, rfl⟩ | ⟨c1, c3, c10, rfl⟩
    all_goals
      simp only [Int.reduceAdd] at e1
      go_enter Tryd.func9, Tryd.ntmps9
      go_wp2_with (first
        | (go_at_call 12; (with_reducible refine (awake_c HT.out HB0.out).mono ?_); rintro e w1 ⟨rfl, hb⟩; have HB1 := Aside0.mk hb; clear hb HB0)
        | (go_at_call 17; (with_reducible refine (leb_is _ HB1.out).mono ?_); rintro e w2 ⟨rfl, hb⟩; have HB2 := Aside0.mk hb; clear hb HB1)
        | (go_at_call 20; (with_reducible refine (section_is _ _ SY.out HB2.out).mono ?_); rintro e w3 ⟨rfl, hb⟩; have HB3 := Aside0.mk hb; clear hb HB2)
        | (go_at_call 13; (with_reducible refine (mod_er_c EA.out HT.out HB3.out).mono ?_); rintro e w4 ⟨rfl, hb⟩; have HB4 := Aside0.mk hb; clear hb HB3)
        | ((with_reducible refine gate_dst (N := 7) rfl ?_); refine box_event ?hg (N := 7) ?hd (cs := #[.slice none 0 0, .slice none 0 0, .slice none 0 0, .slice none 0 0, .slice none 0 0, .slice none 0 0, .slice none 0 0, .int .i64 0, .slice none 0 0, .slice none 0 0, .slice none 0 0]) (t := 33) ?hr ?_; (case hd => rfl); (case hg => rfl); (case hr => first | (go_simp; done) | (go_simp; rfl)); intro q1 hgq1 w5 hA hb; have Jq1 := Aside0.mk hA; have Mq1 := Aside0.mk (show W.heap.size ≤ q1 by have := HB4.out.size; omega); have hb := HB4.out.trans (hb.mono HB4.out.size); have HB5 := Aside0.mk hb; clear hb HB4; clear hA hgq1)
        | ((with_reducible refine gate_store (p := 7) rfl ?_); refine storeRow_event (g := q1) rfl rfl rfl (cs := #[.slice none 0 0, .slice none 0 0, .slice none 0 0, .slice none 0 0, .slice none 0 0, .slice none 0 0, .slice none 0 0, .int .i64 0, .slice none 0 0, .slice none 0 0, .slice none 0 0]) rfl rfl Jq1.out (by kernel_rfl) rfl (by simp [Value.oneCell']) ?_; intro w6 hA hb ho hs; have hb := hb W.heap.size W Mq1.out HB5.out; have HB6 := Aside0.mk hb; clear hb HB5; clear hA ho hs Jq1 Mq1)
        | (go_at_call 17; (with_reducible refine (leb_is _ HB6.out).mono ?_); rintro e w7 ⟨rfl, hb⟩; have HB7 := Aside0.mk hb; clear hb HB6)
        | (go_at_call 20; (with_reducible refine (section_is _ _ SM.out HB7.out).mono ?_); rintro e w8 ⟨rfl, hb⟩; have HB8 := Aside0.mk hb; clear hb HB7)
        | (go_at_call 13; (with_reducible refine (mod_er_c EB.out HT.out HB8.out).mono ?_); rintro e w9 ⟨rfl, hb⟩; have HB9 := Aside0.mk hb; clear hb HB8)
        | ((with_reducible refine gate_dst (N := 9) rfl ?_); refine box_event ?hg (N := 9) ?hd (cs := #[.slice none 0 0, .slice none 0 0, .slice none 0 0, .slice none 0 0, .slice none 0 0, .slice none 0 0, .slice none 0 0, .int .i64 0, .slice none 0 0, .slice none 0 0, .slice none 0 0]) (t := 33) ?hr ?_; (case hd => rfl); (case hg => rfl); (case hr => first | (go_simp; done) | (go_simp; rfl)); intro q2 hgq2 w10 hA hb; have Jq2 := Aside0.mk hA; have Mq2 := Aside0.mk (show W.heap.size ≤ q2 by have := HB9.out.size; omega); have hb := HB9.out.trans (hb.mono HB9.out.size); have HB10 := Aside0.mk hb; clear hb HB9; clear hA hgq2)
        | ((with_reducible refine gate_store (p := 9) rfl ?_); refine storeRow_event (g := q2) rfl rfl rfl (cs := #[.slice none 0 0, .slice none 0 0, .slice none 0 0, .slice none 0 0, .slice none 0 0, .slice none 0 0, .slice none 0 0, .int .i64 0, .slice none 0 0, .slice none 0 0, .slice none 0 0]) rfl rfl Jq2.out (by kernel_rfl) rfl (by simp [Value.oneCell']) ?_; intro w11 hA hb ho hs; have hb := hb W.heap.size W Mq2.out HB10.out; have HB11 := Aside0.mk hb; clear hb HB10; clear hA ho hs Jq2 Mq2)
        | ((with_reducible refine gate_dst (N := 54) rfl ?_); refine lit_event ?hg (N := 54) ?hd (cs := ((List.replicate n (0 : Int)).map (Value.int .u8)).toArray) (t := 5) (n := n) ?hr ?_; (case hd => rfl); (case hg => rfl); (case hr => first | (go_simp; done) | (go_simp; rfl)); intro q3 hgq3 w12 hA hb; have cq3 : (convert 48 9 (.slice (some ⟨q3, 0, none⟩) n n)).run Tryd.prog w12 = .ok (.string (strOfNums (List.replicate n 0))) _ := conv_rep hA; have HB12 := Aside0.mk (below_step HB11.out hb); clear hb HB11; clear hA hgq3)
        | (go_at_call 20; (with_reducible refine (section_is _ _ SN.out HB12.out).mono ?_); rintro e w13 ⟨rfl, hb⟩; have HB13 := Aside0.mk hb; clear hb HB12)
        | (go_at_call 13; (with_reducible refine (mod_er_c EC.out HT.out HB13.out).mono ?_); rintro e w14 ⟨rfl, hb⟩; have HB14 := Aside0.mk hb; clear hb HB13)
        | ((with_reducible refine gate_dst (N := 12) rfl ?_); refine box_event ?hg (N := 12) ?hd (cs := #[.slice none 0 0, .slice none 0 0, .slice none 0 0, .slice none 0 0, .slice none 0 0, .slice none 0 0, .slice none 0 0, .int .i64 0, .slice none 0 0, .slice none 0 0, .slice none 0 0]) (t := 33) ?hr ?_; (case hd => rfl); (case hg => rfl); (case hr => first | (go_simp; done) | (go_simp; rfl)); intro q4 hgq4 w15 hA hb; have Jq4 := Aside0.mk hA; have Mq4 := Aside0.mk (show W.heap.size ≤ q4 by have := HB14.out.size; omega); have hb := HB14.out.trans (hb.mono HB14.out.size); have HB15 := Aside0.mk hb; clear hb HB14; clear hA hgq4)
        | ((with_reducible refine gate_store (p := 12) rfl ?_); refine storeRow_event (g := q4) rfl rfl rfl (cs := #[.slice none 0 0, .slice none 0 0, .slice none 0 0, .slice none 0 0, .slice none 0 0, .slice none 0 0, .slice none 0 0, .int .i64 0, .slice none 0 0, .slice none 0 0, .slice none 0 0]) rfl rfl Jq4.out (by kernel_rfl) rfl (by simp [Value.oneCell']) ?_; intro w16 hA hb ho hs; have hb := hb W.heap.size W Mq4.out HB15.out; have HB16 := Aside0.mk hb; clear hb HB15; clear hA ho hs Jq4 Mq4)
        | (go_at_call 14; (with_reducible refine (num_is _ HB16.out).mono ?_); rintro e w17 ⟨rfl, hb⟩; have HB17 := Aside0.mk hb; clear hb HB16)
        | (go_at_call 14; (with_reducible refine (num_is _ HB17.out).mono ?_); rintro e w18 ⟨rfl, hb⟩; have HB18 := Aside0.mk hb; clear hb HB17)
        | (go_at_call 14; (with_reducible refine (num_is _ HB18.out).mono ?_); rintro e w19 ⟨rfl, hb⟩; have HB19 := Aside0.mk hb; clear hb HB18)
        | (go_at_call 14; (with_reducible refine (num_is _ HB19.out).mono ?_); rintro e w20 ⟨rfl, hb⟩; have HB20 := Aside0.mk hb; clear hb HB19))
      go_ret
      exact ⟨rfl, HB20.out⟩
theorem long_calls (a0 a1 : Int) (W : World) (hT : Tabs W) : Calls Tryd.prog 9 #[.int .i64 a0, .int .i64 a1] W fun e w' => e = .returned (.bool true) ∧ Below W.heap.size W w' := by
  have rz := u11_rng a0
  obtain ⟨z, hz⟩ : ∃ z, wrap64 (1 + wrap64 ((IntKind.u64.wrap a0).tmod 11)) = z := ⟨_, rfl⟩
  rw [hz] at rz
  obtain ⟨x, hx, rx, h8⟩ : ∃ x, ((z == 8) = true ∧ x = 2 ∨ (z == 8) = false ∧ x = z) ∧ (1 ≤ x ∧ x ≤ 11) ∧ x ≠ 8 := by
    by_cases h : z = 8
    · exact ⟨2, .inl ⟨beq_iff_eq.2 h, rfl⟩, by omega, by omega⟩
    · exact ⟨z, .inr ⟨beq_eq_false_iff_ne.2 h, rfl⟩, rz, h⟩
  obtain ⟨M, hM, hMo⟩ : ∃ M, ((x == 1) = true ∧ M = 256 ∨ (x == 1) = false ∧ (x == 3) = true ∧ M = 256 ∨ (x == 1) = false ∧ (x == 3) = false ∧ (x == 10) = true ∧ M = 256 ∨ (x == 1) = false ∧ (x == 3) = false ∧ (x == 10) = false ∧ M = 1024) ∧ mostOf x = M := by
    unfold mostOf
    by_cases h1 : x = 1
    · exact ⟨256, .inl ⟨beq_iff_eq.2 h1, rfl⟩, if_pos (.inl h1)⟩
    by_cases h3 : x = 3
    · exact ⟨256, .inr (.inl ⟨beq_eq_false_iff_ne.2 h1, beq_iff_eq.2 h3, rfl⟩), if_pos (.inr (.inl h3))⟩
    by_cases h10 : x = 10
    · exact ⟨256, .inr (.inr (.inl ⟨beq_eq_false_iff_ne.2 h1, beq_eq_false_iff_ne.2 h3, beq_iff_eq.2 h10, rfl⟩)), if_pos (.inr (.inr h10))⟩
    · exact ⟨1024, .inr (.inr (.inr ⟨beq_eq_false_iff_ne.2 h1, beq_eq_false_iff_ne.2 h3, beq_eq_false_iff_ne.2 h10, rfl⟩)), if_neg (by omega)⟩
  have hM2 : M = 256 ∨ M = 1024 := by rcases hM with h | h | h | h <;> omega
  have a3 : Go.bits .and .i64 a1 3 = a1 % 4 := by
    have := LebMath.and_mask a1 2 (by decide) 3 (by decide)
    simpa using this
  have a10 : Go.bits .and .i64 a1 1023 = a1 % 1024 := by
    have := LebMath.and_mask a1 10 (by decide) 1023 (by decide)
    simpa using this
  obtain ⟨n, hn⟩ : ∃ n : Nat, (n : Int) = 65523 + a1 % 4 := ⟨(65523 + a1 % 4).toNat, by omega⟩
  by_cases hn0 : n = 65523
  · exact long_ok a0 a1 x z _ M n W hz hx rx h8 hM hMo rfl (by rw [a10]; omega) (by rw [a10]; omega) (by rw [a3, hn]) (by omega) (by omega) hn0 hT
  · exact long_er2 a0 a1 x z _ M n W hz hx rx h8 hM hMo rfl (by rw [a10]; omega) (by rw [a10]; omega) (by rw [a3, hn]) (by omega) (by omega) hn0 hT
end Go.Proofs.YtkdoijfjceeblaaDoor.EDec
