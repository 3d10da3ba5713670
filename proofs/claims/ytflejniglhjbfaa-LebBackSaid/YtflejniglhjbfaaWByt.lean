/-
  Words for rows of bytes that a conversion has made (their blocks bear a mark): '[]byte(s)', 'string(b)', a byte stored, a byte appended.
-/
import Derived.Test.YtflejniglhjbfaaWHand2
import Derived.Laws.IdiomStrings
import Derived.Laws.BytesArg
import Derived.ArgAppend
namespace Go.Proofs.YtflejniglhjbfaaW.Byt
open Go Go.RowKit Go.Proofs.YtflejniglhjbfaaW.PrintWords Go.Proofs.YtflejniglhjbfaaW.PrintLast Go.Proofs.YtflejniglhjbfaaW.PrintMore Go.Proofs.YtflejniglhjbfaaW.Hand
set_option linter.unusedVariables false
set_option linter.unusedSimpArgs false
/-- The bytes ns lie from block g's head on, c cells are there. -/
structure BytAt (W : World) (e : TypeId) (g c : Nat) (ns : List Int) : Prop where
  blk : ∃ cs m, W.heap[g]? = some (.cells cs e m) ∧ c ≤ cs.size ∧ (∀ j, j < c → ¬ (m.1 ≤ j ∧ j < m.2))
  cell : ∀ j, j < ns.length → W.cell? ⟨g, j, none⟩ = some (.int .u8 (ns.getD j 0))
  len : ns.length ≤ c
  cap : c ≤ maxLen
section
variable {W W1 : World} {e : TypeId} {g c : Nat} {ns : List Int}
theorem BytAt.lt (h : BytAt W e g c ns) : g < W.heap.size := by
  obtain ⟨cs, m, hb, _⟩ := h.blk
  exact blk_lt hb
theorem BytAt.below (h : BytAt W e g c ns) (hb : Below W.heap.size W W1) : BytAt W1 e g c ns := by
  obtain ⟨cs, m, h1, h2, h3⟩ := h.blk
  exact ⟨⟨cs, m, blk_below h1 hb, h2, h3⟩, fun j hj => pw_cell_below hb (h.cell j hj), h.len, h.cap⟩
theorem BytAt.take (h : BytAt W e g c ns) (k : Nat) : BytAt W e g c (ns.take k) :=
  ⟨h.blk, fun j hj => by
    have hj' : j < ns.length := by rw [List.length_take] at hj; omega
    rw [h.cell j hj']
    rw [List.length_take] at hj
    simp [List.getD_eq_getElem?_getD, List.getElem?_take, show j < k by omega], by rw [List.length_take]; have := h.len; omega, h.cap⟩
theorem BytAt.keep (h : BytAt W e g c ns) (hb : W1.heap[g]? = W.heap[g]?) : BytAt W1 e g c ns := by
  obtain ⟨cs, m, h1, h2, h3⟩ := h.blk
  exact ⟨⟨cs, m, hb.trans h1, h2, h3⟩, fun j hj => by have := h.cell j hj; simpa [World.cell?, hb] using this, h.len, h.cap⟩
theorem cell_mark {cs : Array Value} {m : Nat × Nat} (h : W.heap[g]? = some (.cells cs e m)) (j : Nat) : W.cell? ⟨g, j, none⟩ = cs[j]? := cell_of_row W g j cs e m h
theorem frozen_mark {cs : Array Value} {m : Nat × Nat} (h : W.heap[g]? = some (.cells cs e m)) {j : Nat} (hm : ¬ (m.1 ≤ j ∧ j < m.2)) : W.frozen? ⟨g, j, none⟩ = false := by
  obtain ⟨lo, hi⟩ := m
  simp only [World.frozen?, h]
  simpa using hm
theorem set_mark {cs : Array Value} {m : Nat × Nat} (h : W.heap[g]? = some (.cells cs e m)) (j : Nat) (x : Value) : (W.setCell ⟨g, j, none⟩ x).heap[g]? = some (.cells (cs.setIfInBounds j x) e m) := by
  obtain ⟨lo, hi⟩ := m
  simp [World.setCell, h, Array.getElem?_modify]
theorem BytAt.set (h : BytAt W e g c ns) {j : Nat} (hj : j < ns.length) (x : Int) : BytAt (W.setCell ⟨g, j, none⟩ (.int .u8 x)) e g c (ns.set j x) := by
  obtain ⟨cs, m, h1, h2, h3⟩ := h.blk
  refine ⟨⟨_, m, set_mark h1 j _, by rw [Array.size_setIfInBounds]; exact h2, h3⟩, fun i hi => ?_, by rw [List.length_set]; exact h.len, h.cap⟩
  rw [List.length_set] at hi
  rw [cell_mark (set_mark h1 j _), Array.getElem?_setIfInBounds]
  by_cases hij : j = i
  · subst hij
    have := h.len
    simp [List.getD_eq_getElem?_getD, hi, show j < cs.size by omega]
  · rw [if_neg hij, ← cell_mark h1 i, h.cell i hi]
    simp [List.getD_eq_getElem?_getD, List.getElem?_set_ne hij]
/-- A byte behind the last, where there is room. -/
theorem BytAt.push (h : BytAt W e g c ns) (hr : ns.length + 1 ≤ c) (x : Int) : BytAt (W.setCell ⟨g, ns.length, none⟩ (.int .u8 x)) e g c (ns ++ [x]) := by
  obtain ⟨cs, m, h1, h2, h3⟩ := h.blk
  refine ⟨⟨_, m, set_mark h1 _ _, by rw [Array.size_setIfInBounds]; exact h2, h3⟩, fun i hi => ?_, by simpa using hr, h.cap⟩
  rw [List.length_append, List.length_singleton] at hi
  rw [cell_mark (set_mark h1 _ _), Array.getElem?_setIfInBounds]
  by_cases hij : ns.length = i
  · subst hij
    simp [List.getD_eq_getElem?_getD, show ns.length < cs.size by omega]
  · have hi' : i < ns.length := by omega
    rw [if_neg hij, ← cell_mark h1 i, h.cell i hi']
    simp [List.getD_eq_getElem?_getD, List.getElem?_append_left hi']
theorem BytAt.of_own {b : Nat} {n : Nat} {A : Option Addr} (h : W.ownsRow b e 1 (.slice A n c) n (nums .u8 ns)) (hp : 0 < n) : ∃ g, A = some ⟨g, 0, none⟩ ∧ b ≤ g ∧ n = ns.length ∧ BytAt W e g c ns := by
  have hl : ns.length = n := by have := h.1; simp [nums] at this; exact this
  rcases h.2 with ⟨hv, _⟩ | ⟨g, cap, cur, hv, hb, hh, hnc, hcm, hcs, ht⟩
  · cases hv; omega
  · injection hv with ha _ hc
    subst ha
    subst hc
    refine ⟨g, rfl, hb, hl.symm, ⟨⟨cur, (0, 0), hh, by omega, fun j _ hm => by omega⟩, fun j hj => ?_, by omega, hcm⟩⟩
    rw [← add_plain]
    exact h.cells (g := g) rfl j (.int .u8 (ns.getD j 0)) (by simp [nums, List.getD_eq_getElem?_getD, hj])
end
def numsOf (s : ByteArray) : List Int := s.data.toList.map fun b => (b.toNat : Int)
theorem numsOf_str (ds : List Int) (h : ∀ d ∈ ds, 0 ≤ d ∧ d < 256) : numsOf (strOfNums ds) = ds := by
  unfold numsOf strOfNums
  rw [List.map_map]
  have : ∀ l : List Int, (∀ d ∈ l, 0 ≤ d ∧ d < 256) → l.map ((fun b : UInt8 => (b.toNat : Int)) ∘ fun n : Int => UInt8.ofNat n.toNat) = l := by
    intro l
    induction l with
    | nil => intro _; rfl
    | cons d l ih =>
      intro hl
      rw [List.map_cons, ih (fun x hx => hl x (by simp [hx]))]
      congr 1
      have := hl d (by simp)
      simp only [Function.comp, UInt8.toNat_ofNat']
      omega
  exact this ds h
section
variable {P : Program} {ops : Array Oper} {rest : List Oper} {o : Oper} {a : Act} {Q : Exit → Act → World → Prop}
/-- '[]byte(s)'. -/
theorem bytes_event {W : World} {src dst e : TypeId} {x : Operand} {s : ByteArray} (hgd : o.guard = none) (ho : o.op = .convert src dst x) (hx : a.eval x = .string s) (hs : P.underlying src = some .string) (hd : P.underlying dst = some (.slice e)) (he : P.underlying e = some (.int .u8)) (hm : s.size ≤ 140737488355328) (hcap : ∀ w : World, grownCap w s.size 0 e ≤ maxLen)
    (h : ∀ g c w1, W.heap.size ≤ g → BytAt w1 e g c (numsOf s) → Below W.heap.size W w1 → wpList P ops Q rest (a.put o.dst (.slice (some ⟨g, 0, none⟩) s.size c)) w1) : wpList P ops Q (o :: rest) a W := by
  have hrun : (execOp a.eval o).run P W = .ok (.value (.slice (some ⟨W.heap.size, 0, none⟩) s.size (grownCap W s.size 0 e))) (W.drew.alloc (.cells (bytesRow s (grownCap W s.size 0 e)) e ((bytesRow s (grownCap W s.size 0 e)).size, (bytesRow s (grownCap W s.size 0 e)).size + 1))) := by
    unfold execOp
    rw [ho]
    simp only [hx]
    rw [Sem.run_bind, run_bytes_of_string W src dst e s hs hd he]
    rfl
  refine Kd.event_run hgd hrun (h _ _ _ (Nat.le_refl _) ?_ (below_alloc (below_drew (Below.refl _ _)) _))
  have hge := grownCap_ge W s.size 0 e
  have hsz : (bytesRow s (grownCap W s.size 0 e)).size = grownCap W s.size 0 e := by
    simp only [bytesRow, Array.size_append, Array.size_map, Array.size_replicate]
    have : s.data.size = s.size := rfl
    omega
  have hb : (W.drew.alloc (.cells (bytesRow s (grownCap W s.size 0 e)) e ((bytesRow s (grownCap W s.size 0 e)).size, (bytesRow s (grownCap W s.size 0 e)).size + 1))).heap[W.heap.size]? = some _ := heap_alloc_new W.drew _
  refine ⟨⟨_, _, hb, Nat.le_of_eq hsz.symm, fun j hj hm => by simp only at hm; omega⟩, fun j hj => ?_, by simpa [numsOf] using hge, hcap W⟩
  rw [cell_mark hb]
  have hj' : j < s.data.size := by simpa [numsOf] using hj
  have hj2 : j < s.size := hj'
  simp [bytesRow, numsOf, hj', hj2, List.getD_eq_getElem?_getD, Array.getElem?_append]
/-- 'string(b)'. -/
theorem string_event {W : World} {src dst e : TypeId} {x : Operand} {g c n : Nat} {ns : List Int} (hgd : o.guard = none) (ho : o.op = .convert src dst x) (hx : a.eval x = .slice (some ⟨g, 0, none⟩) n c) (hn : ns.length = n) (hs : P.underlying src = some (.slice e)) (he : P.underlying e = some (.int .u8)) (hd : P.underlying dst = some .string)
    (hB : ∀ j, j < ns.length → W.cell? ⟨g, j, none⟩ = some (.int .u8 (ns.getD j 0))) (h : wpList P ops Q rest (a.put o.dst (.string (strOfNums ns))) W) : wpList P ops Q (o :: rest) a W := by
  have hrun : (execOp a.eval o).run P W = .ok (.value (.string (strOfNums ns))) W := by
    unfold execOp
    rw [ho]
    simp only [hx]
    rw [Sem.run_bind, run_convert_bytes_arg W src e hs he g 0 n c ns hn (fun i hi => by rw [Nat.zero_add]; exact hB i (by omega)) dst hd]
    rfl
  exact Kd.event_run hgd hrun h
/-- 'b[j] = x'. -/
theorem storeByte_event {W : World} {e t : TypeId} {g c j : Nat} {ns : List Int} {x : Int} {p v : Operand} (hgd : o.guard = none) (ho : o.op = .store t p v) (hN : o.dst = none) (hp : a.eval p = .pointer (some ⟨g, j, none⟩)) (hv : a.eval v = .int .u8 x) (hi : (P.info? t).map (·.size) = some 1)
    (hB : BytAt W e g c ns) (hj : j < ns.length)
    (h : ∀ w', BytAt w' e g c (ns.set j x) → (∀ B wb, B ≤ g → Below B wb W → Below B wb w') → (∀ k, k ≠ g → k < W.heap.size → w'.heap[k]? = W.heap[k]?) → wpList P ops Q rest a w') : wpList P ops Q (o :: rest) a W := by
  obtain ⟨cs, m, h1, h2, h3⟩ := hB.blk
  have hjc : j < c := by have := hB.len; omega
  have hs : (storeVar t ⟨g, j, none⟩ (.int .u8 x)).run P W = .ok () (W.setCell ⟨g, j, none⟩ (.int .u8 x)) := by
    have := run_storeCells_cells (P := P) g j [.int .u8 x] 0 W (fun i hi => by
        obtain rfl : i = 0 := by simpa using hi
        simp only [Nat.add_zero]
        rw [cell_mark h1]; simp [show j < cs.size by omega])
      (fun i hi => by
        obtain rfl : i = 0 := by simpa using hi
        exact frozen_mark h1 (h3 j hjc)) (fun v hv => by rw [List.mem_singleton.1 hv]; rfl)
    cases hq : P.info? t with
    | none => simp [hq] at hi
    | some i =>
      have hs : 1 = i.size := by simp [hq] at hi; omega
      simp only [Nat.add_zero] at this
      rw [← setCells_one]
      simp [storeVar, sizeOf, typeInfo, hq, Value.cells, ← hs, this]
  have hrun : (execOp a.eval o).run P W = .ok .skip (W.setCell ⟨g, j, none⟩ (.int .u8 x)) := by
    have hsa : (Instr.storeAt t (.pointer (some ⟨g, j, none⟩)) (.int .u8 x)).run P W = .ok () (W.setCell ⟨g, j, none⟩ (.int .u8 x)) := by
      unfold Instr.storeAt
      have ha : (Instr.sureAddr (.pointer (some ⟨g, j, none⟩))).run P W = .ok ⟨g, j, none⟩ W := by simp [Instr.sureAddr, go_sem]
      rw [Sem.run_bind, ha]
      exact hs
    unfold execOp
    rw [ho]
    simp only [hp, hv]
    rw [Sem.run_bind, hsa]
    rfl
  refine wpList_plain hgd fun K hK => ?_
  unfold Oper.wp
  rw [hrun]
  show K (a.put o.dst undef) _
  rw [hN]
  exact hK _ _ (h _ (hB.set hj x) (fun B wb hB' hb => hb.setCell hB' _) (fun k hk _ => Below.heap_setCell W ⟨g, j, none⟩ _ k hk))
/-- 'append(b, x)', behind the literal's block. -/
theorem appendByte_event {W : World} {e t : TypeId} {g c n gl : Nat} {ns : List Int} {x : Int} {s y : Operand} (hgd : o.guard = none) (ho : o.op = .call { callee := .builtin .append, args := #[s, y], argTypes := #[t, t] })
    (ht : P.underlying t = some (.slice e)) (hinfo : (P.info? e).map (fun i => (i.zero, i.size, i.bytes)) = some (some (.int .u8 0), 1, 1)) (hs : a.eval s = .slice (some ⟨g, 0, none⟩) n c) (hn : ns.length = n) (hy : a.eval y = .slice (some ⟨gl, 0, none⟩) 1 1)
    (hB : BytAt W e g c ns) (hl : W.cell? ⟨gl, 0, none⟩ = some (.int .u8 x)) (hmax : ns.length + 1 ≤ 140737488355328) (hp : 1 ≤ n)
    (h : ∀ g' c' w', BytAt w' e g' c' (ns ++ [x]) → (∀ B wb, B ≤ g → B ≤ W.heap.size → Below B wb W → Below B wb w') → (∀ k, k ≠ g → k < W.heap.size → w'.heap[k]? = W.heap[k]?) → (g' = g ∨ W.heap.size ≤ g') → wpList P ops Q rest (a.put o.dst (.slice (some ⟨g', 0, none⟩) (n + 1) c')) w') : wpList P ops Q (o :: rest) a W := by
  obtain ⟨i, hi, hz, h1, h2⟩ : ∃ i, P.info? e = some i ∧ i.zero = some (.int .u8 0) ∧ i.size = 1 ∧ i.bytes = 1 := by
    cases hq : P.info? e with
    | none => simp [hq] at hinfo
    | some i => simp [hq] at hinfo; exact ⟨i, rfl, hinfo.1, hinfo.2.1, hinfo.2.2⟩
  obtain ⟨cs, m, b1, b2, b3⟩ := hB.blk
  have hnews : ∀ (j : Nat) u, [Value.int .u8 x][j]? = some u → W.cell? ((⟨gl, 0, none⟩ : Addr).add j) = some u := by
    intro j u hu
    cases j with
    | zero => simp at hu; rw [← hu, add_plain]; exact hl
    | succ j => simp at hu
  subst hn
  have hb : ∀ w', (Builtin.append_ #[t, t] o.type #[.slice (some ⟨g, 0, none⟩) ns.length c, .slice (some ⟨gl, 0, none⟩) 1 1]).run P W = w' → (execOp a.eval o).run P W = w'.andThen fun v w' => .ok (.value v) w' := by
    intro w' hw
    unfold execOp
    simp [ho, resolve, Deferred.ofValue, invoke, hs, hy, builtin, hw]
  by_cases hroom : ns.length + 1 ≤ c
  · have hr := run_append_room_cells (P := P) W t o.type e i ht hi g 0 ns.length c ⟨gl, 0, none⟩ 1 1 [.int .u8 x] (by rw [h1]; rfl) hnews (fun u hu => by rw [List.mem_singleton.1 hu]; rfl) hroom
      (fun j hj => by
        obtain rfl : j = 0 := by simpa using hj
        rw [h1, Nat.mul_one, Nat.zero_add, Nat.add_zero, cell_mark b1]; simp [show ns.length < cs.size by omega])
      (fun j hj => by
        obtain rfl : j = 0 := by simpa using hj
        rw [h1, Nat.mul_one, Nat.zero_add, Nat.add_zero]; exact frozen_mark b1 (b3 _ (by omega)))
    rw [h1, Nat.mul_one, Nat.zero_add, setCells_one] at hr
    exact Kd.event_run hgd (hb _ hr) (h _ _ _ (hB.push hroom x) (fun B wb hB' _ hbb => hbb.setCell hB' _) (fun k hk _ => Below.heap_setCell W ⟨g, _, none⟩ _ k hk) (.inl rfl))
  · obtain ⟨v', w', hr, hown, hg⟩ := run_append_arg_grows (P := P) W t o.type e i (.int .u8 0) 1 1 ht hi hz h1 h2 rfl (by decide) ⟨g, 0, none⟩ ns.length c (nums .u8 ns) (by simp [nums]) (fun j u hu => by
        have hj : j < ns.length := by
          have := (List.getElem?_eq_some_iff.1 hu).1
          simpa [nums] using this
        rw [add_plain, hB.cell j hj]
        simp [nums, List.getElem?_eq_getElem hj] at hu
        rw [← hu]
        simp [List.getD_eq_getElem?_getD, hj]) ⟨gl, 0, none⟩ 1 1 [.int .u8 x] rfl hnews (by omega) (by unfold maxLen; omega) (by omega)
    obtain ⟨A', c', rfl⟩ := own_slice hown
    have hown' : w'.ownsRow W.heap.size e 1 (.slice A' (ns.length + 1) c') (ns.length + 1) (nums .u8 (ns ++ [x])) := by
      rw [nums_append]; exact hown
    obtain ⟨g', rfl, hge, _, hBy⟩ := BytAt.of_own hown' (by omega)
    exact Kd.event_run hgd (hb _ hr) (h _ _ _ hBy (fun B wb _ hW hbb => hbb.grown hg hW (fun k hk => by cases hk)) (fun k _ hk => hg.block k hk (by simp)) (.inr hge))
end
end Go.Proofs.YtflejniglhjbfaaW.Byt
