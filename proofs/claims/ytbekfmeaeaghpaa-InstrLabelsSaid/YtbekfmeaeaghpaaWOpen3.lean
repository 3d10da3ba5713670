/-
  Arguments opened by induction on their data's size: for a type nested in itself.
-/
import Derived.Test.YtbekfmeaeaghpaaWOpen2
namespace Go.Proofs.YtbekfmeaeaghpaaW.Open2
open Go Go.RowKit Go.ChangeShapes Go.WideShapes Go.Deep Go.Proofs.YtbekfmeaeaghpaaW.PrintWords
section
variable {H : Type} {enc : TypeId × Value → H} {P : Program} {w : World} {base : Nat} {spare : Nat → Bool} {held : Bool}
/-- As Opens, for data no larger than s. -/
def OpensS (enc : TypeId × Value → H) (P : Program) (w : World) (base : Nat) (spare : Nat → Bool) (held : Bool) (s : Nat) (t : TypeId) {α : Type} (d : Kd α) (G : α → Prop) : Prop :=
  ∀ fuel cs x, DataW.trod enc P w base spare held fuel t cs = some x → SizeOf.sizeOf x.1 ≤ s → Light P t x.1 → ∃ a, d.K w a cs ∧ G a
theorem Opens.atS {s : Nat} {t : TypeId} {α : Type} {d : Kd α} {G : α → Prop} (h : Opens enc P w base spare held t d G) : OpensS enc P w base spare held s t d G := fun fuel cs x hx _ hl => h fuel cs x hx hl
theorem OpensS.all {t : TypeId} {α : Type} {d : Kd α} {G : α → Prop} (h : ∀ s, OpensS enc P w base spare held s t d G) : Opens enc P w base spare held t d G := fun fuel cs x hx hl => h _ fuel cs x hx (Nat.le_refl _) hl
theorem OpensS.mono {s : Nat} {t : TypeId} {α : Type} {d : Kd α} {G G' : α → Prop} (h : OpensS enc P w base spare held s t d G) (hg : ∀ a, G a → G' a) : OpensS enc P w base spare held s t d G' :=
  fun fuel cs x hx hs hl => by
    obtain ⟨a, h1, h2⟩ := h fuel cs x hx hs hl
    exact ⟨a, h1, hg a h2⟩
theorem OpensS.slice {s : Nat} {t e : TypeId} {α : Type} {d : Kd α} {G : α → Prop} {B : Nat} (ht : P.underlying t = some (.slice e)) (hC : P.cellsOf e = d.sz) (hB : P.bytesOf e = B) (h : OpensS enc P w base spare held s e d G) :
    OpensS enc P w base spare held s t (Kd.slice e d) (fun xs => xs.length * B ≤ 140737488351232 ∧ ∀ a, a ∈ xs → G a) :=
  fun fuel cs x hx hs0 hl0 => by
    rcases open_slice ht hx with ⟨rfl, _⟩ | ⟨a, len, cap, m, n, D, Pl, rfl, _, hl, hm, hmm, rfl, hi⟩
    · exact ⟨[], ⟨none, 0, rfl, Nat.le_refl _, rfl, by simp, fun h => absurd h (by simp)⟩, by simp, fun a ha => by cases ha⟩
    · have hlm : len ≤ m := by rw [hmm]; split <;> omega
      obtain ⟨xs, hxl, hxs⟩ := choose_list (fun i a' => ∃ c, c.length = d.sz ∧ d.K w a' c ∧ (∀ j u, c[j]? = some u → w.cell? (a.add (i * d.sz + j)) = some u) ∧ G a') len (fun i hil => by
        obtain ⟨c, hc, htr⟩ := hi i (by omega)
        have hli : Light P e (D i) := ⟨fun k hk => hl0.out k (by
          simp only [DataW.weights, ht, List.mem_cons, List.mem_append]
          exact Or.inr (Or.inl (weights_mem_all (List.mem_map.2 ⟨i, List.mem_range.2 hil, rfl⟩) hk)))⟩
        have hsz : SizeOf.sizeOf (D i) ≤ s := by
          have h1 : SizeOf.sizeOf (D i) < SizeOf.sizeOf ((List.range len).map D) := List.sizeOf_lt_of_mem (List.mem_map.2 ⟨i, List.mem_range.2 hil, rfl⟩)
          simp only [DataW.slice.sizeOf_spec] at hs0
          omega
        obtain ⟨b, hk, hg⟩ := h _ _ _ htr hsz hli
        rw [hC] at hc
        obtain ⟨_, hcl, hat⟩ := World.cells?_some hc
        refine ⟨b, c, hcl, hk, fun j u hu => ?_, hg⟩
        have hj : j < d.sz := by
          rcases Nat.lt_or_ge j c.length with h1 | h1
          · omega
          · rw [List.getElem?_eq_none h1] at hu; cases hu
        have := hat j hj
        rw [hu] at this
        rw [← Opens.slice.add_of_add', this])
      have hw := hl0.out ((((List.range len).map D).length + ((List.range (m - len)).map fun j => D (len + j)).length) * P.bytesOf e) (by simp [DataW.weights, ht])
      rw [hB, List.length_map, List.length_range] at hw
      refine ⟨xs, ⟨some a, cap, by rw [hxl], by omega, ?_⟩, ?_, fun b hb => ?_⟩
      · refine ⟨rfl, by rw [hxl]; unfold maxLen at hm; omega, fun _ => ⟨a, rfl, fun j p hp => ?_⟩⟩
        obtain ⟨c, h1, h2, h3, _⟩ := hxs j p hp
        exact ⟨c, h1, h2, h3⟩
      · rw [hxl]
        exact Nat.le_trans (Nat.mul_le_mul_right _ (Nat.le_add_right _ _)) hw
      · obtain ⟨i, hi'⟩ := List.mem_iff_getElem?.1 hb
        obtain ⟨_, _, _, _, hg⟩ := hxs i b hi'
        exact hg
def FieldsOpenS (enc : TypeId × Value → H) (P : Program) (w : World) (base : Nat) (spare : Nat → Bool) (held : Bool) (s : Nat) (fs : List Field) {α : Type} (d : Kd α) (G : α → Prop) (off total : Nat) : Prop :=
  ∀ cs : List Value, cs.length = total → (∀ f, f ∈ fs → ∃ fuel x, DataW.trod enc P w base spare held fuel f.type ((cs.drop f.offset).take (P.cellsOf f.type)) = some x ∧ SizeOf.sizeOf x.1 ≤ s ∧ Light P f.type x.1) → ∃ a, d.K w a (cs.drop off) ∧ G a
theorem FieldsOpenS.last {s : Nat} {f : Field} {α : Type} {d : Kd α} {G : α → Prop} {off total : Nat} (h : OpensS enc P w base spare held s f.type d G) (ho : f.offset = off) (hl : total = off + P.cellsOf f.type) : FieldsOpenS enc P w base spare held s [f] d G off total := by
  intro cs hcs hf
  obtain ⟨fuel, x, hx, hs, hli⟩ := hf f (by simp)
  obtain ⟨a, hk, hg⟩ := h _ _ _ hx hs hli
  refine ⟨a, ?_, hg⟩
  have e : (cs.drop f.offset).take (P.cellsOf f.type) = cs.drop off := by
    rw [ho, List.take_of_length_le (by rw [List.length_drop]; omega)]
  rwa [e] at hk
theorem FieldsOpenS.cons {s : Nat} {f : Field} {fs : List Field} {α β : Type} {d0 : Kd α} {d : Kd β} {G0 : α → Prop} {G : β → Prop} {off total : Nat} (h : OpensS enc P w base spare held s f.type d0 G0) (ho : f.offset = off)
    (hs : FieldsOpenS enc P w base spare held s fs d G (off + P.cellsOf f.type) total) : FieldsOpenS enc P w base spare held s (f :: fs) (Kd.pair d0 d) (fun p => G0 p.1 ∧ G p.2) off total := by
  intro cs hcs hf
  obtain ⟨fuel, x, hx, hsz, hli⟩ := hf f (by simp)
  obtain ⟨a, hk, hg⟩ := h _ _ _ hx hsz hli
  obtain ⟨b, hk2, hg2⟩ := hs cs hcs (fun f' hf' => hf f' (by simp [hf']))
  refine ⟨(a, b), ⟨_, _, ?_, hk, hk2⟩, hg, hg2⟩
  rw [ho, ← List.drop_drop, List.take_append_drop]
theorem OpensS.struct {s : Nat} {t : TypeId} {fs : Array Field} {α : Type} {d : Kd α} {G : α → Prop} (ht : P.underlying t = some (.struct fs)) (hf : FieldsOpenS enc P w base spare held s fs.toList d G 0 (P.cellsOf t)) : OpensS enc P w base spare held (s + 1) t d G := by
  intro fuel cs x hx hs hl
  obtain ⟨xs, n, _, rfl, hlen, hxl, hg⟩ := DataW.trod_struct ht hx
  obtain ⟨a, hk, hga⟩ := hf cs hlen (fun f hfm => by
    obtain ⟨i, hi⟩ := List.mem_iff_getElem?.1 hfm
    have hi' : fs[i]? = some f := by rw [← hi]; simp
    have h1 := hg i f hi'
    have hlt : i < xs.length := by
      rw [hxl]
      rcases Nat.lt_or_ge i fs.size with h2 | h2
      · exact h2
      · rw [Array.getElem?_eq_none h2] at hi'; cases hi'
    rw [List.getElem?_eq_getElem hlt] at h1
    refine ⟨n, _, h1, ?_, ⟨fun k hk => hl.out k ?_⟩⟩
    · have h3 : SizeOf.sizeOf xs[i].1 < SizeOf.sizeOf (xs.map (·.1)) := List.sizeOf_lt_of_mem (List.mem_map.2 ⟨xs[i], List.getElem_mem hlt, rfl⟩)
      simp only [DataW.agg.sizeOf_spec] at hs
      omega
    simp only [DataW.weights, ht]
    exact DataW.weights_mem_each (j := i) (t := f.type) (d := xs[i].1) (by rw [List.getElem?_map, hi]; rfl) (by rw [List.getElem?_map, List.getElem?_eq_getElem hlt]; rfl) k hk)
  exact ⟨a, by simpa using hk, hga⟩
/-- A slice of which nothing but its shape is told. -/
def kShape : Kd (Option Addr × Nat × Nat) where
  sz := 1
  E := []
  K _ x cs := cs = [.slice x.1 x.2.1 x.2.2]
  M _ _ _ x cs := cs = [.slice x.1 x.2.1 x.2.2]
  K_len h := by rw [h]; rfl
  K_one h u hu := by rw [h] at hu; obtain rfl := List.mem_singleton.1 hu; rfl
  K_below _ h := h
  K_of_M h := h
  M_mono _ h := h
  M_bound h := h
  M_move _ h := h
  M_lower _ h := h
theorem Opens.shape {t e : TypeId} (ht : P.underlying t = some (.slice e)) : Opens enc P w base spare held t kShape (fun _ => True) :=
  fun fuel cs x hx _ => by
    rcases open_slice ht hx with ⟨rfl, _⟩ | ⟨a, len, cap, m, n, D, Pl, rfl, _, _, _, _, _, _⟩
    · exact ⟨(none, 0, 0), rfl, trivial⟩
    · exact ⟨(some a, len, cap), rfl, trivial⟩
end
end Go.Proofs.YtbekfmeaeaghpaaW.Open2
