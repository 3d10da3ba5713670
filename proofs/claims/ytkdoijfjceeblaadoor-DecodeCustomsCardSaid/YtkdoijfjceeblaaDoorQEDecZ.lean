/-
  What the claim leans on, cut to what is used (wip/tools/prune15.py): words, printed functions, walks.
-/
import Derived.Test.YtkdoijfjceeblaaDoorQF2
import Derived.Test.YtkdoijfjceeblaaDoorQEDecS
namespace Go.Proofs.YtkdoijfjceeblaaDoor.EDec
open Go Go.RowKit Go.Proofs.YtkdoijfjceeblaaDoor.F Go.Proofs.YtkdoijfjceeblaaDoorW.Hand Go.Proofs.YtkdoijfjceeblaaDoorW.PrintWords Go.Proofs.YtkdoijfjceeblaaDoorW.PrintLast Go.Proofs.YtkdoijfjceeblaaDoorW.PrintMore
open Go.Proofs.YtkdoijfjceeblaaDoor.LebGets (G)
open Go.Proofs.YtkdoijfjceeblaaDoor.ENames (Tabs tabs_below nget nmay)
open Go.Proofs.YtkdoijfjceeblaaDoor.EInstr (GRes pGet get_b ret_int wrap_bt)
set_option linter.unusedVariables false
set_option linter.unusedSimpArgs false
theorem ints0_c (W : World) : Calls Tryd.prog 30 #[.slice none 0 0, .slice none 0 0] W fun e w' => e = .returned (.bool true) ∧ Below W.heap.size W w' :=
 (peloruslaw0_SameInts.calls 3 none 0 [] none 0 [] true W (Kd.C_nil _ _) (Nat.le_refl _) (Kd.C_nil _ _) (Nat.le_refl _) (by kernel_rfl)).mono fun e w' h => ⟨h.1, h.2.below⟩
set_option maxHeartbeats 4000000 in
set_option maxRecDepth 100000 in
theorem same1z_c (W : World) : Calls Tryd.prog 28 #[.agg #[.slice none 0 0, .slice none 0 0, .slice none 0 0, .slice none 0 0, .slice none 0 0, .slice none 0 0, .slice none 0 0, .int .i64 0, .slice none 0 0, .slice none 0 0, .slice none 0 0], .agg #[.slice none 0 0, .slice none 0 0, .slice none 0 0, .slice none 0 0, .slice none 0 0, .slice none 0 0, .slice none 0 0, .int .i64 0, .slice none 0 0, .slice none 0 0, .slice none 0 0]] W fun e w' => e = .returned (.bool true) ∧ Below W.heap.size W w' := by
 go_enter Tryd.func28, Tryd.ntmps28
 go_wp2_with (first
  | ((with_reducible refine gate_dst (N := 2) rfl ?_); refine box_event ?hg (N := 2) ?hd (cs := #[.slice none 0 0, .slice none 0 0, .slice none 0 0, .slice none 0 0, .slice none 0 0, .slice none 0 0, .slice none 0 0, .int .i64 0, .slice none 0 0, .slice none 0 0, .slice none 0 0]) (t := 33) ?hr ?_; (case hd => rfl); (case hg => rfl); (case hr => first | (go_simp; done) | (go_simp; rfl)); intro g1 hgg1 w1 hA hb; have K1 := am hA; have L1 := am (show W.heap.size ≤ g1 by rw [hgg1]; exact Nat.le_refl _); have HB1 := am hb; clear hA hb hgg1)
  | ((with_reducible refine gate_dst (N := 3) rfl ?_); refine box_event ?hg (N := 3) ?hd (cs := #[.slice none 0 0, .slice none 0 0, .slice none 0 0, .slice none 0 0, .slice none 0 0, .slice none 0 0, .slice none 0 0, .int .i64 0, .slice none 0 0, .slice none 0 0, .slice none 0 0]) (t := 33) ?hr ?_; (case hd => rfl); (case hg => rfl); (case hr => first | (go_simp; done) | (go_simp; rfl)); intro g2 hgg2 w2 hA hb; have HB2 := am (below_step HB1.out hb); have K1b := am (blk_below K1.out hb); clear K1; have K1 := K1b; clear K1b; have K2 := am hA; have y0 : w2.cell? ⟨g1, 0, none⟩ = some (.slice none 0 0) := blk_cell K1.out 0; have y1 : w2.cell? ⟨g1, 1, none⟩ = some (.slice none 0 0) := blk_cell K1.out 1; have y2 : w2.cell? ⟨g1, 2, none⟩ = some (.slice none 0 0) := blk_cell K1.out 2; have y3 : w2.cell? ⟨g1, 3, none⟩ = some (.slice none 0 0) := blk_cell K1.out 3; have y4 : w2.cell? ⟨g1, 4, none⟩ = some (.slice none 0 0) := blk_cell K1.out 4; have y5 : w2.cell? ⟨g1, 5, none⟩ = some (.slice none 0 0) := blk_cell K1.out 5; have y6 : w2.cell? ⟨g1, 6, none⟩ = some (.slice none 0 0) := blk_cell K1.out 6; have y7 : w2.cell? ⟨g1, 7, none⟩ = some (.int .i64 0) := blk_cell K1.out 7; have y8 : w2.cell? ⟨g1, 8, none⟩ = some (.slice none 0 0) := blk_cell K1.out 8; have y9 : w2.cell? ⟨g1, 9, none⟩ = some (.slice none 0 0) := blk_cell K1.out 9; have y10 : w2.cell? ⟨g1, 10, none⟩ = some (.slice none 0 0) := blk_cell K1.out 10; have x0 : w2.cell? ⟨g2, 0, none⟩ = some (.slice none 0 0) := blk_cell K2.out 0; have x1 : w2.cell? ⟨g2, 1, none⟩ = some (.slice none 0 0) := blk_cell K2.out 1; have x2 : w2.cell? ⟨g2, 2, none⟩ = some (.slice none 0 0) := blk_cell K2.out 2; have x3 : w2.cell? ⟨g2, 3, none⟩ = some (.slice none 0 0) := blk_cell K2.out 3; have x4 : w2.cell? ⟨g2, 4, none⟩ = some (.slice none 0 0) := blk_cell K2.out 4; have x5 : w2.cell? ⟨g2, 5, none⟩ = some (.slice none 0 0) := blk_cell K2.out 5; have x6 : w2.cell? ⟨g2, 6, none⟩ = some (.slice none 0 0) := blk_cell K2.out 6; have x7 : w2.cell? ⟨g2, 7, none⟩ = some (.int .i64 0) := blk_cell K2.out 7; have x8 : w2.cell? ⟨g2, 8, none⟩ = some (.slice none 0 0) := blk_cell K2.out 8; have x9 : w2.cell? ⟨g2, 9, none⟩ = some (.slice none 0 0) := blk_cell K2.out 9; have x10 : w2.cell? ⟨g2, 10, none⟩ = some (.slice none 0 0) := blk_cell K2.out 10; clear hA hb hgg2)
  | (go_at_call 30; (with_reducible refine (ints0_c w2).mono ?_); rintro e w3 ⟨rfl, hb⟩; have HBX := am (HB2.out.trans (hb.mono HB2.out.size)); have K1b := am (blk_below K1.out hb); have K2b := am (blk_below K2.out hb); clear K1 K2; have K1 := K1b; have K2 := K2b; clear K1b K2b; clear y0 x0 y1 x1 y2 x2 y3 x3 y4 x4 y5 x5 y6 x6 y7 x7 y8 x8 y9 x9 y10 x10; have y0 : w3.cell? ⟨g1, 0, none⟩ = some (.slice none 0 0) := blk_cell K1.out 0; have y1 : w3.cell? ⟨g1, 1, none⟩ = some (.slice none 0 0) := blk_cell K1.out 1; have y2 : w3.cell? ⟨g1, 2, none⟩ = some (.slice none 0 0) := blk_cell K1.out 2; have y3 : w3.cell? ⟨g1, 3, none⟩ = some (.slice none 0 0) := blk_cell K1.out 3; have y4 : w3.cell? ⟨g1, 4, none⟩ = some (.slice none 0 0) := blk_cell K1.out 4; have y5 : w3.cell? ⟨g1, 5, none⟩ = some (.slice none 0 0) := blk_cell K1.out 5; have y6 : w3.cell? ⟨g1, 6, none⟩ = some (.slice none 0 0) := blk_cell K1.out 6; have y7 : w3.cell? ⟨g1, 7, none⟩ = some (.int .i64 0) := blk_cell K1.out 7; have y8 : w3.cell? ⟨g1, 8, none⟩ = some (.slice none 0 0) := blk_cell K1.out 8; have y9 : w3.cell? ⟨g1, 9, none⟩ = some (.slice none 0 0) := blk_cell K1.out 9; have y10 : w3.cell? ⟨g1, 10, none⟩ = some (.slice none 0 0) := blk_cell K1.out 10; have x0 : w3.cell? ⟨g2, 0, none⟩ = some (.slice none 0 0) := blk_cell K2.out 0; have x1 : w3.cell? ⟨g2, 1, none⟩ = some (.slice none 0 0) := blk_cell K2.out 1; have x2 : w3.cell? ⟨g2, 2, none⟩ = some (.slice none 0 0) := blk_cell K2.out 2; have x3 : w3.cell? ⟨g2, 3, none⟩ = some (.slice none 0 0) := blk_cell K2.out 3; have x4 : w3.cell? ⟨g2, 4, none⟩ = some (.slice none 0 0) := blk_cell K2.out 4; have x5 : w3.cell? ⟨g2, 5, none⟩ = some (.slice none 0 0) := blk_cell K2.out 5; have x6 : w3.cell? ⟨g2, 6, none⟩ = some (.slice none 0 0) := blk_cell K2.out 6; have x7 : w3.cell? ⟨g2, 7, none⟩ = some (.int .i64 0) := blk_cell K2.out 7; have x8 : w3.cell? ⟨g2, 8, none⟩ = some (.slice none 0 0) := blk_cell K2.out 8; have x9 : w3.cell? ⟨g2, 9, none⟩ = some (.slice none 0 0) := blk_cell K2.out 9; have x10 : w3.cell? ⟨g2, 10, none⟩ = some (.slice none 0 0) := blk_cell K2.out 10; clear hb))
 go_loopg [5] 0 (fun n v5 wr => v5 = .int .i64 0 ∧ wr.heap[g1]? = some (.cells #[.slice none 0 0, .slice none 0 0, .slice none 0 0, .slice none 0 0, .slice none 0 0, .slice none 0 0, .slice none 0 0, .int .i64 0, .slice none 0 0, .slice none 0 0, .slice none 0 0] 33 (0, 0)) ∧ wr.heap[g2]? = some (.cells #[.slice none 0 0, .slice none 0 0, .slice none 0 0, .slice none 0 0, .slice none 0 0, .slice none 0 0, .slice none 0 0, .int .i64 0, .slice none 0 0, .slice none 0 0, .slice none 0 0] 33 (0, 0)) ∧ Below W.heap.size W wr)
 case atStart => exact ⟨rfl, K1.out, K2.out, HBX.out⟩
 case round =>
  obtain ⟨rfl, h1, h2, h3⟩ := hrel
  clear K1 K2 HBX
  have K1 := am h1
  have K2 := am h2
  have HBX := am h3
  clear h1 h2 h3
  have y0 : wr.cell? ⟨g1, 0, none⟩ = some (.slice none 0 0) := blk_cell K1.out 0
  go_wp2
  go_loopg [6] 0 (fun n v6 wr => v6 = .int .i64 0 ∧ wr.heap[g1]? = some (.cells #[.slice none 0 0, .slice none 0 0, .slice none 0 0, .slice none 0 0, .slice none 0 0, .slice none 0 0, .slice none 0 0, .int .i64 0, .slice none 0 0, .slice none 0 0, .slice none 0 0] 33 (0, 0)) ∧ wr.heap[g2]? = some (.cells #[.slice none 0 0, .slice none 0 0, .slice none 0 0, .slice none 0 0, .slice none 0 0, .slice none 0 0, .slice none 0 0, .int .i64 0, .slice none 0 0, .slice none 0 0, .slice none 0 0] 33 (0, 0)) ∧ Below W.heap.size W wr)
  case atStart => exact ⟨rfl, K1.out, K2.out, HBX.out⟩
  case round =>
   obtain ⟨rfl, h1, h2, h3⟩ := hrel
   clear K1 K2 HBX
   have K1 := am h1
   have K2 := am h2
   have HBX := am h3
   clear h1 h2 h3
   have y1 : wr.cell? ⟨g1, 1, none⟩ = some (.slice none 0 0) := blk_cell K1.out 1
   go_wp2
   go_loopg [7] 0 (fun n v7 wr => v7 = .int .i64 0 ∧ wr.heap[g1]? = some (.cells #[.slice none 0 0, .slice none 0 0, .slice none 0 0, .slice none 0 0, .slice none 0 0, .slice none 0 0, .slice none 0 0, .int .i64 0, .slice none 0 0, .slice none 0 0, .slice none 0 0] 33 (0, 0)) ∧ wr.heap[g2]? = some (.cells #[.slice none 0 0, .slice none 0 0, .slice none 0 0, .slice none 0 0, .slice none 0 0, .slice none 0 0, .slice none 0 0, .int .i64 0, .slice none 0 0, .slice none 0 0, .slice none 0 0] 33 (0, 0)) ∧ Below W.heap.size W wr)
   case atStart => exact ⟨rfl, K1.out, K2.out, HBX.out⟩
   case round =>
    obtain ⟨rfl, h1, h2, h3⟩ := hrel
    clear K1 K2 HBX
    have K1 := am h1
    have K2 := am h2
    have HBX := am h3
    clear h1 h2 h3
    have y3 : wr.cell? ⟨g1, 3, none⟩ = some (.slice none 0 0) := blk_cell K1.out 3
    go_wp2
    go_loopg [8] 0 (fun n v8 wr => v8 = .int .i64 0 ∧ wr.heap[g1]? = some (.cells #[.slice none 0 0, .slice none 0 0, .slice none 0 0, .slice none 0 0, .slice none 0 0, .slice none 0 0, .slice none 0 0, .int .i64 0, .slice none 0 0, .slice none 0 0, .slice none 0 0] 33 (0, 0)) ∧ wr.heap[g2]? = some (.cells #[.slice none 0 0, .slice none 0 0, .slice none 0 0, .slice none 0 0, .slice none 0 0, .slice none 0 0, .slice none 0 0, .int .i64 0, .slice none 0 0, .slice none 0 0, .slice none 0 0] 33 (0, 0)) ∧ Below W.heap.size W wr)
    case atStart => exact ⟨rfl, K1.out, K2.out, HBX.out⟩
    case round =>
     obtain ⟨rfl, h1, h2, h3⟩ := hrel
     clear K1 K2 HBX
     have K1 := am h1
     have K2 := am h2
     have HBX := am h3
     clear h1 h2 h3
     have y4 : wr.cell? ⟨g1, 4, none⟩ = some (.slice none 0 0) := blk_cell K1.out 4
     go_wp2
     go_ret
     exact ⟨rfl, HBX.out⟩
set_option maxHeartbeats 4000000 in
set_option maxRecDepth 100000 in
theorem samez_c (W : World) : Calls Tryd.prog 16 #[.agg #[.slice none 0 0, .slice none 0 0, .slice none 0 0, .slice none 0 0, .slice none 0 0, .slice none 0 0, .slice none 0 0, .int .i64 0, .slice none 0 0, .slice none 0 0, .slice none 0 0], .agg #[.slice none 0 0, .slice none 0 0, .slice none 0 0, .slice none 0 0, .slice none 0 0, .slice none 0 0, .slice none 0 0, .int .i64 0, .slice none 0 0, .slice none 0 0, .slice none 0 0]] W fun e w' => e = .returned (.bool true) ∧ Below W.heap.size W w' := by
 go_enter Tryd.func16, Tryd.ntmps16
 go_wp2_with (first
  | ((with_reducible refine gate_dst (N := 2) rfl ?_); refine box_event ?hg (N := 2) ?hd (cs := #[.slice none 0 0, .slice none 0 0, .slice none 0 0, .slice none 0 0, .slice none 0 0, .slice none 0 0, .slice none 0 0, .int .i64 0, .slice none 0 0, .slice none 0 0, .slice none 0 0]) (t := 33) ?hr ?_; (case hd => rfl); (case hg => rfl); (case hr => first | (go_simp; done) | (go_simp; rfl)); intro g1 hgg1 w1 hA hb; have K1 := am hA; have L1 := am (show W.heap.size ≤ g1 by rw [hgg1]; exact Nat.le_refl _); have HB1 := am hb; clear hA hb hgg1)
  | ((with_reducible refine gate_dst (N := 3) rfl ?_); refine box_event ?hg (N := 3) ?hd (cs := #[.slice none 0 0, .slice none 0 0, .slice none 0 0, .slice none 0 0, .slice none 0 0, .slice none 0 0, .slice none 0 0, .int .i64 0, .slice none 0 0, .slice none 0 0, .slice none 0 0]) (t := 33) ?hr ?_; (case hd => rfl); (case hg => rfl); (case hr => first | (go_simp; done) | (go_simp; rfl)); intro g2 hgg2 w2 hA hb; have HB2 := am (below_step HB1.out hb); have K1b := am (blk_below K1.out hb); clear K1; have K1 := K1b; clear K1b; have K2 := am hA; have y0 : w2.cell? ⟨g1, 0, none⟩ = some (.slice none 0 0) := blk_cell K1.out 0; have y1 : w2.cell? ⟨g1, 1, none⟩ = some (.slice none 0 0) := blk_cell K1.out 1; have y2 : w2.cell? ⟨g1, 2, none⟩ = some (.slice none 0 0) := blk_cell K1.out 2; have y3 : w2.cell? ⟨g1, 3, none⟩ = some (.slice none 0 0) := blk_cell K1.out 3; have y4 : w2.cell? ⟨g1, 4, none⟩ = some (.slice none 0 0) := blk_cell K1.out 4; have y5 : w2.cell? ⟨g1, 5, none⟩ = some (.slice none 0 0) := blk_cell K1.out 5; have y6 : w2.cell? ⟨g1, 6, none⟩ = some (.slice none 0 0) := blk_cell K1.out 6; have y7 : w2.cell? ⟨g1, 7, none⟩ = some (.int .i64 0) := blk_cell K1.out 7; have y8 : w2.cell? ⟨g1, 8, none⟩ = some (.slice none 0 0) := blk_cell K1.out 8; have y9 : w2.cell? ⟨g1, 9, none⟩ = some (.slice none 0 0) := blk_cell K1.out 9; have y10 : w2.cell? ⟨g1, 10, none⟩ = some (.slice none 0 0) := blk_cell K1.out 10; have x0 : w2.cell? ⟨g2, 0, none⟩ = some (.slice none 0 0) := blk_cell K2.out 0; have x1 : w2.cell? ⟨g2, 1, none⟩ = some (.slice none 0 0) := blk_cell K2.out 1; have x2 : w2.cell? ⟨g2, 2, none⟩ = some (.slice none 0 0) := blk_cell K2.out 2; have x3 : w2.cell? ⟨g2, 3, none⟩ = some (.slice none 0 0) := blk_cell K2.out 3; have x4 : w2.cell? ⟨g2, 4, none⟩ = some (.slice none 0 0) := blk_cell K2.out 4; have x5 : w2.cell? ⟨g2, 5, none⟩ = some (.slice none 0 0) := blk_cell K2.out 5; have x6 : w2.cell? ⟨g2, 6, none⟩ = some (.slice none 0 0) := blk_cell K2.out 6; have x7 : w2.cell? ⟨g2, 7, none⟩ = some (.int .i64 0) := blk_cell K2.out 7; have x8 : w2.cell? ⟨g2, 8, none⟩ = some (.slice none 0 0) := blk_cell K2.out 8; have x9 : w2.cell? ⟨g2, 9, none⟩ = some (.slice none 0 0) := blk_cell K2.out 9; have x10 : w2.cell? ⟨g2, 10, none⟩ = some (.slice none 0 0) := blk_cell K2.out 10; clear hA hb hgg2)
  | (go_at_call 28; (with_reducible refine (same1z_c w2).mono ?_); rintro e w3 ⟨rfl, hb⟩; have HBX := am (HB2.out.trans (hb.mono HB2.out.size)); have K1b := am (blk_below K1.out hb); have K2b := am (blk_below K2.out hb); clear K1 K2; have K1 := K1b; have K2 := K2b; clear K1b K2b; clear y0 x0 y1 x1 y2 x2 y3 x3 y4 x4 y5 x5 y6 x6 y7 x7 y8 x8 y9 x9 y10 x10; have y0 : w3.cell? ⟨g1, 0, none⟩ = some (.slice none 0 0) := blk_cell K1.out 0; have y1 : w3.cell? ⟨g1, 1, none⟩ = some (.slice none 0 0) := blk_cell K1.out 1; have y2 : w3.cell? ⟨g1, 2, none⟩ = some (.slice none 0 0) := blk_cell K1.out 2; have y3 : w3.cell? ⟨g1, 3, none⟩ = some (.slice none 0 0) := blk_cell K1.out 3; have y4 : w3.cell? ⟨g1, 4, none⟩ = some (.slice none 0 0) := blk_cell K1.out 4; have y5 : w3.cell? ⟨g1, 5, none⟩ = some (.slice none 0 0) := blk_cell K1.out 5; have y6 : w3.cell? ⟨g1, 6, none⟩ = some (.slice none 0 0) := blk_cell K1.out 6; have y7 : w3.cell? ⟨g1, 7, none⟩ = some (.int .i64 0) := blk_cell K1.out 7; have y8 : w3.cell? ⟨g1, 8, none⟩ = some (.slice none 0 0) := blk_cell K1.out 8; have y9 : w3.cell? ⟨g1, 9, none⟩ = some (.slice none 0 0) := blk_cell K1.out 9; have y10 : w3.cell? ⟨g1, 10, none⟩ = some (.slice none 0 0) := blk_cell K1.out 10; have x0 : w3.cell? ⟨g2, 0, none⟩ = some (.slice none 0 0) := blk_cell K2.out 0; have x1 : w3.cell? ⟨g2, 1, none⟩ = some (.slice none 0 0) := blk_cell K2.out 1; have x2 : w3.cell? ⟨g2, 2, none⟩ = some (.slice none 0 0) := blk_cell K2.out 2; have x3 : w3.cell? ⟨g2, 3, none⟩ = some (.slice none 0 0) := blk_cell K2.out 3; have x4 : w3.cell? ⟨g2, 4, none⟩ = some (.slice none 0 0) := blk_cell K2.out 4; have x5 : w3.cell? ⟨g2, 5, none⟩ = some (.slice none 0 0) := blk_cell K2.out 5; have x6 : w3.cell? ⟨g2, 6, none⟩ = some (.slice none 0 0) := blk_cell K2.out 6; have x7 : w3.cell? ⟨g2, 7, none⟩ = some (.int .i64 0) := blk_cell K2.out 7; have x8 : w3.cell? ⟨g2, 8, none⟩ = some (.slice none 0 0) := blk_cell K2.out 8; have x9 : w3.cell? ⟨g2, 9, none⟩ = some (.slice none 0 0) := blk_cell K2.out 9; have x10 : w3.cell? ⟨g2, 10, none⟩ = some (.slice none 0 0) := blk_cell K2.out 10; clear hb))
 go_loopg [5] 0 (fun n v5 wr => v5 = .int .i64 0 ∧ wr.heap[g1]? = some (.cells #[.slice none 0 0, .slice none 0 0, .slice none 0 0, .slice none 0 0, .slice none 0 0, .slice none 0 0, .slice none 0 0, .int .i64 0, .slice none 0 0, .slice none 0 0, .slice none 0 0] 33 (0, 0)) ∧ wr.heap[g2]? = some (.cells #[.slice none 0 0, .slice none 0 0, .slice none 0 0, .slice none 0 0, .slice none 0 0, .slice none 0 0, .slice none 0 0, .int .i64 0, .slice none 0 0, .slice none 0 0, .slice none 0 0] 33 (0, 0)) ∧ Below W.heap.size W wr)
 case atStart => exact ⟨rfl, K1.out, K2.out, HBX.out⟩
 case round =>
  obtain ⟨rfl, h1, h2, h3⟩ := hrel
  clear K1 K2 HBX
  have K1 := am h1
  have K2 := am h2
  have HBX := am h3
  clear h1 h2 h3
  have y5 : wr.cell? ⟨g1, 5, none⟩ = some (.slice none 0 0) := blk_cell K1.out 5
  go_wp2
  go_loopg [6] 0 (fun n v6 wr => v6 = .int .i64 0 ∧ wr.heap[g1]? = some (.cells #[.slice none 0 0, .slice none 0 0, .slice none 0 0, .slice none 0 0, .slice none 0 0, .slice none 0 0, .slice none 0 0, .int .i64 0, .slice none 0 0, .slice none 0 0, .slice none 0 0] 33 (0, 0)) ∧ wr.heap[g2]? = some (.cells #[.slice none 0 0, .slice none 0 0, .slice none 0 0, .slice none 0 0, .slice none 0 0, .slice none 0 0, .slice none 0 0, .int .i64 0, .slice none 0 0, .slice none 0 0, .slice none 0 0] 33 (0, 0)) ∧ Below W.heap.size W wr)
  case atStart => exact ⟨rfl, K1.out, K2.out, HBX.out⟩
  case round =>
   obtain ⟨rfl, h1, h2, h3⟩ := hrel
   clear K1 K2 HBX
   have K1 := am h1
   have K2 := am h2
   have HBX := am h3
   clear h1 h2 h3
   have y6 : wr.cell? ⟨g1, 6, none⟩ = some (.slice none 0 0) := blk_cell K1.out 6
   go_wp2
   go_loopg [7] 0 (fun n v7 wr => v7 = .int .i64 0 ∧ wr.heap[g1]? = some (.cells #[.slice none 0 0, .slice none 0 0, .slice none 0 0, .slice none 0 0, .slice none 0 0, .slice none 0 0, .slice none 0 0, .int .i64 0, .slice none 0 0, .slice none 0 0, .slice none 0 0] 33 (0, 0)) ∧ wr.heap[g2]? = some (.cells #[.slice none 0 0, .slice none 0 0, .slice none 0 0, .slice none 0 0, .slice none 0 0, .slice none 0 0, .slice none 0 0, .int .i64 0, .slice none 0 0, .slice none 0 0, .slice none 0 0] 33 (0, 0)) ∧ Below W.heap.size W wr)
   case atStart => exact ⟨rfl, K1.out, K2.out, HBX.out⟩
   case round =>
    obtain ⟨rfl, h1, h2, h3⟩ := hrel
    clear K1 K2 HBX
    have K1 := am h1
    have K2 := am h2
    have HBX := am h3
    clear h1 h2 h3
    have y8 : wr.cell? ⟨g1, 8, none⟩ = some (.slice none 0 0) := blk_cell K1.out 8
    go_wp2
    go_loopg [8] 0 (fun n v8 wr => v8 = .int .i64 0 ∧ wr.heap[g1]? = some (.cells #[.slice none 0 0, .slice none 0 0, .slice none 0 0, .slice none 0 0, .slice none 0 0, .slice none 0 0, .slice none 0 0, .int .i64 0, .slice none 0 0, .slice none 0 0, .slice none 0 0] 33 (0, 0)) ∧ wr.heap[g2]? = some (.cells #[.slice none 0 0, .slice none 0 0, .slice none 0 0, .slice none 0 0, .slice none 0 0, .slice none 0 0, .slice none 0 0, .int .i64 0, .slice none 0 0, .slice none 0 0, .slice none 0 0] 33 (0, 0)) ∧ Below W.heap.size W wr)
    case atStart => exact ⟨rfl, K1.out, K2.out, HBX.out⟩
    case round =>
     obtain ⟨rfl, h1, h2, h3⟩ := hrel
     clear K1 K2 HBX
     have K1 := am h1
     have K2 := am h2
     have HBX := am h3
     clear h1 h2 h3
     have y9 : wr.cell? ⟨g1, 9, none⟩ = some (.slice none 0 0) := blk_cell K1.out 9
     go_wp2
     go_loopg [9] 0 (fun n v9 wr => v9 = .int .i64 0 ∧ wr.heap[g1]? = some (.cells #[.slice none 0 0, .slice none 0 0, .slice none 0 0, .slice none 0 0, .slice none 0 0, .slice none 0 0, .slice none 0 0, .int .i64 0, .slice none 0 0, .slice none 0 0, .slice none 0 0] 33 (0, 0)) ∧ wr.heap[g2]? = some (.cells #[.slice none 0 0, .slice none 0 0, .slice none 0 0, .slice none 0 0, .slice none 0 0, .slice none 0 0, .slice none 0 0, .int .i64 0, .slice none 0 0, .slice none 0 0, .slice none 0 0] 33 (0, 0)) ∧ Below W.heap.size W wr)
     case atStart => exact ⟨rfl, K1.out, K2.out, HBX.out⟩
     case round =>
      obtain ⟨rfl, h1, h2, h3⟩ := hrel
      clear K1 K2 HBX
      have K1 := am h1
      have K2 := am h2
      have HBX := am h3
      clear h1 h2 h3
      have y10 : wr.cell? ⟨g1, 10, none⟩ = some (.slice none 0 0) := blk_cell K1.out 10
      go_wp2
      go_ret
      exact ⟨rfl, HBX.out⟩
theorem samez_is {w0 W : World} (hb : Below w0.heap.size w0 W) : Calls Tryd.prog 16 #[.agg #[.slice none 0 0, .slice none 0 0, .slice none 0 0, .slice none 0 0, .slice none 0 0, .slice none 0 0, .slice none 0 0, .int .i64 0, .slice none 0 0, .slice none 0 0, .slice none 0 0], .agg #[.slice none 0 0, .slice none 0 0, .slice none 0 0, .slice none 0 0, .slice none 0 0, .slice none 0 0, .slice none 0 0, .int .i64 0, .slice none 0 0, .slice none 0 0, .slice none 0 0]] W fun e w' => e = .returned (.bool true) ∧ Below w0.heap.size w0 w' :=
 (samez_c W).mono fun e w' h => ⟨h.1, hb.trans (h.2.mono hb.size)⟩
end Go.Proofs.YtkdoijfjceeblaaDoor.EDec
