/-
  An argument opened by the kinds of its type, whatever its shape: what can be read as data has its kind's cells; its rows and strings are no longer than their weights allow.
-/
import Derived.Test.YtbekfmeaeaghpaaWMore
import Derived.Deep.Slices
import Derived.ProofKit
import Derived.SizedLaws
namespace Go.Proofs.YtbekfmeaeaghpaaW.Open2
open Go Go.RowKit Go.ChangeShapes Go.WideShapes Go.Deep Go.Proofs.YtbekfmeaeaghpaaW.PrintWords

section
variable {H : Type} {enc : TypeId × Value → H} {P : Program} {w : World} {base : Nat} {spare : Nat → Bool} {held : Bool}

/-- No weight of it passes the reach. -/
structure Light (P : Program) (t : TypeId) (d : DataW H) : Prop where
  out : ∀ n ∈ d.weights P t, n ≤ reachBytes
theorem weights_mem_all {e : TypeId} {n : Nat} {d : DataW H} : ∀ {ds : List (DataW H)}, d ∈ ds → n ∈ d.weights P e → n ∈ DataW.weightsAll P e ds
  | d0 :: ds, hd, hn => by
    simp only [DataW.weightsAll, List.mem_append]
    rcases List.mem_cons.1 hd with rfl | hd
    · exact Or.inl hn
    · exact Or.inr (weights_mem_all hd hn)
theorem light_each {ts : List TypeId} {ds : List (DataW H)} {j : Nat} {t : TypeId} {d : DataW H} (h : (DataW.weightsEach P ts ds).all (· ≤ reachBytes) = true) (ht : ts[j]? = some t) (hd : ds[j]? = some d) : Light P t d :=
  ⟨fun n hn => by simpa using List.all_eq_true.1 h n (DataW.weights_mem_each ht hd n hn)⟩
/-- Whatever reads as type t, light enough, is a value of kind d, one of those that G lets by. -/
def Opens (enc : TypeId × Value → H) (P : Program) (w : World) (base : Nat) (spare : Nat → Bool) (held : Bool) (t : TypeId) {α : Type} (d : Kd α) (G : α → Prop) : Prop :=
  ∀ fuel cs x, DataW.trod enc P w base spare held fuel t cs = some x → Light P t x.1 → ∃ a, d.K w a cs ∧ G a

theorem Opens.mono {t : TypeId} {α : Type} {d : Kd α} {G G' : α → Prop} (h : Opens enc P w base spare held t d G) (hg : ∀ a, G a → G' a) : Opens enc P w base spare held t d G' :=
  fun fuel cs x hx hl => by
    obtain ⟨a, h1, h2⟩ := h fuel cs x hx hl
    exact ⟨a, h1, hg a h2⟩
theorem Opens.int {t : TypeId} {k : IntKind} (ht : P.underlying t = some (.int k)) : Opens enc P w base spare held t (Kd.int k) (fun n => (Lit.int k n).wf = true) :=
  fun fuel cs x hx _ => by
    obtain ⟨n, rfl, _, hw⟩ := DataW.trod_int ht hx
    exact ⟨n, rfl, hw⟩
theorem Opens.bool {t : TypeId} (ht : P.underlying t = some .bool) : Opens enc P w base spare held t Kd.bool (fun _ => True) :=
  fun fuel cs x hx _ => by
    obtain ⟨n, rfl, _⟩ := DataW.trod_bool ht hx
    exact ⟨n, rfl, trivial⟩
theorem Opens.string {t : TypeId} (ht : P.underlying t = some .string) : Opens enc P w base spare held t Kd.string (fun s => s.size ≤ 140737488351232) :=
  fun fuel cs x hx hl => by
    obtain ⟨s, rfl, rfl, hs⟩ := DataW.trod_string ht hx
    refine ⟨s, rfl, ?_⟩
    have := hl.out s.data.toList.length (by simp [DataW.weights])
    rw [Array.length_toList] at this
    exact this
theorem choose_list {α : Type} (R : Nat → α → Prop) : ∀ (n : Nat), (∀ i, i < n → ∃ a, R i a) → ∃ xs : List α, xs.length = n ∧ ∀ i a, xs[i]? = some a → R i a
  | 0, _ => ⟨[], rfl, fun i a h => by simp at h⟩
  | n + 1, h => by
    obtain ⟨xs, hl, hx⟩ := choose_list R n (fun i hi => h i (by omega))
    obtain ⟨a, ha⟩ := h n (by omega)
    refine ⟨xs ++ [a], by simp [hl], fun i b hb => ?_⟩
    rcases Nat.lt_or_ge i n with hi | hi
    · rw [List.getElem?_append_left (by omega)] at hb
      exact hx i b hb
    · rw [List.getElem?_append_right (by omega)] at hb
      have hi0 : i - xs.length = 0 := by
        rcases Nat.lt_or_ge (i - xs.length) 1 with h1 | h1
        · omega
        · rw [List.getElem?_eq_none (by simpa using h1)] at hb; cases hb
      rw [hi0] at hb
      simp at hb
      obtain rfl : i = n := by omega
      subst hb
      exact ha
theorem Opens.slice {t e : TypeId} {α : Type} {d : Kd α} {G : α → Prop} {B : Nat} (ht : P.underlying t = some (.slice e)) (hC : P.cellsOf e = d.sz) (hB : P.bytesOf e = B) (h : Opens enc P w base spare held e d G) :
    Opens enc P w base spare held t (Kd.slice e d) (fun xs => xs.length * B ≤ 140737488351232 ∧ ∀ a, a ∈ xs → G a) :=
  fun fuel cs x hx hl0 => by
    rcases open_slice ht hx with ⟨rfl, _⟩ | ⟨a, len, cap, m, n, D, Pl, rfl, _, hl, hm, hmm, rfl, hi⟩
    · exact ⟨[], ⟨none, 0, rfl, Nat.le_refl _, rfl, by simp, fun h => absurd h (by simp)⟩, by simp, fun a ha => by cases ha⟩
    · have hlm : len ≤ m := by rw [hmm]; split <;> omega
      obtain ⟨xs, hxl, hxs⟩ := choose_list (fun i a' => ∃ c, c.length = d.sz ∧ d.K w a' c ∧ (∀ j u, c[j]? = some u → w.cell? (a.add (i * d.sz + j)) = some u) ∧ G a') len (fun i hil => by
        obtain ⟨c, hc, htr⟩ := hi i (by omega)
        have hli : Light P e (D i) := ⟨fun k hk => hl0.out k (by
          simp only [DataW.weights, ht, List.mem_cons, List.mem_append]
          exact Or.inr (Or.inl (weights_mem_all (List.mem_map.2 ⟨i, List.mem_range.2 hil, rfl⟩) hk)))⟩
        obtain ⟨b, hk, hg⟩ := h _ _ _ htr hli
        rw [hC] at hc
        obtain ⟨_, hcl, hat⟩ := World.cells?_some hc
        refine ⟨b, c, hcl, hk, fun j u hu => ?_, hg⟩
        have hj : j < d.sz := by
          rcases Nat.lt_or_ge j c.length with h1 | h1
          · omega
          · rw [List.getElem?_eq_none h1] at hu; cases hu
        have := hat j hj
        rw [hu] at this
        rw [← add_of_add', this])
      have hw := hl0.out ((((List.range len).map D).length + ((List.range (m - len)).map fun j => D (len + j)).length) * P.bytesOf e) (by simp [DataW.weights, ht])
      rw [hB, List.length_map, List.length_range] at hw
      refine ⟨xs, ⟨some a, cap, by rw [hxl], by omega, ?_⟩, ?_, fun b hb => ?_⟩
      · refine ⟨rfl, by rw [hxl]; unfold maxLen at hm; omega, fun _ => ⟨a, rfl, fun j p hp => ?_⟩⟩
        obtain ⟨c, h1, h2, h3, _⟩ := hxs j p hp
        exact ⟨c, h1, h2, h3⟩
      · rw [hxl]
        exact Nat.le_trans (Nat.mul_le_mul_right _ (Nat.le_add_right _ _)) hw
      · obtain ⟨i, hi'⟩ := List.mem_iff_getElem?.1 hb
        obtain ⟨_, _, _, _, hg⟩ := hxs i b hi'
        exact hg
where
  add_of_add' : ∀ {a : Addr} {i j : Nat}, (a.add i).add j = a.add (i + j) := by
    intro a i j
    unfold Addr.add
    by_cases hi : i = 0 <;> by_cases hj : j = 0 <;> simp [hi, hj, Nat.add_assoc]
/-- The fields from offset 'off' on, as nested pairs. -/
def FieldsOpen (enc : TypeId × Value → H) (P : Program) (w : World) (base : Nat) (spare : Nat → Bool) (held : Bool) (fs : List Field) {α : Type} (d : Kd α) (G : α → Prop) (off total : Nat) : Prop :=
  ∀ cs : List Value, cs.length = total → (∀ f, f ∈ fs → ∃ fuel x, DataW.trod enc P w base spare held fuel f.type ((cs.drop f.offset).take (P.cellsOf f.type)) = some x ∧ Light P f.type x.1) → ∃ a, d.K w a (cs.drop off) ∧ G a
theorem FieldsOpen.last {f : Field} {α : Type} {d : Kd α} {G : α → Prop} {off total : Nat} (h : Opens enc P w base spare held f.type d G) (ho : f.offset = off) (hl : total = off + P.cellsOf f.type) : FieldsOpen enc P w base spare held [f] d G off total := by
  intro cs hcs hf
  obtain ⟨fuel, x, hx, hli⟩ := hf f (by simp)
  obtain ⟨a, hk, hg⟩ := h _ _ _ hx hli
  refine ⟨a, ?_, hg⟩
  have e : (cs.drop f.offset).take (P.cellsOf f.type) = cs.drop off := by
    rw [ho, List.take_of_length_le (by rw [List.length_drop]; omega)]
  rwa [e] at hk
theorem FieldsOpen.cons {f : Field} {fs : List Field} {α β : Type} {d0 : Kd α} {d : Kd β} {G0 : α → Prop} {G : β → Prop} {off total : Nat} (h : Opens enc P w base spare held f.type d0 G0) (ho : f.offset = off)
    (hs : FieldsOpen enc P w base spare held fs d G (off + P.cellsOf f.type) total) : FieldsOpen enc P w base spare held (f :: fs) (Kd.pair d0 d) (fun p => G0 p.1 ∧ G p.2) off total := by
  intro cs hcs hf
  obtain ⟨fuel, x, hx, hli⟩ := hf f (by simp)
  obtain ⟨a, hk, hg⟩ := h _ _ _ hx hli
  obtain ⟨b, hk2, hg2⟩ := hs cs hcs (fun f' hf' => hf f' (by simp [hf']))
  refine ⟨(a, b), ⟨_, _, ?_, hk, hk2⟩, hg, hg2⟩
  rw [ho, ← List.drop_drop, List.take_append_drop]
theorem Opens.struct {t : TypeId} {fs : Array Field} {α : Type} {d : Kd α} {G : α → Prop} (ht : P.underlying t = some (.struct fs)) (hf : FieldsOpen enc P w base spare held fs.toList d G 0 (P.cellsOf t)) : Opens enc P w base spare held t d G := by
  intro fuel cs x hx hl
  obtain ⟨xs, n, _, rfl, hlen, hxl, hg⟩ := DataW.trod_struct ht hx
  obtain ⟨a, hk, hga⟩ := hf cs hlen (fun f hfm => by
    obtain ⟨i, hi⟩ := List.mem_iff_getElem?.1 hfm
    have hi' : fs[i]? = some f := by rw [← hi]; simp
    have h1 := hg i f hi'
    have hlt : i < xs.length := by
      rw [hxl]
      rcases Nat.lt_or_ge i fs.size with h2 | h2
      · exact h2
      · rw [Array.getElem?_eq_none h2] at hi'; cases hi'
    rw [List.getElem?_eq_getElem hlt] at h1
    refine ⟨n, _, h1, ⟨fun k hk => hl.out k ?_⟩⟩
    simp only [DataW.weights, ht]
    exact DataW.weights_mem_each (j := i) (t := f.type) (d := xs[i].1) (by rw [List.getElem?_map, hi]; rfl) (by rw [List.getElem?_map, List.getElem?_eq_getElem hlt]; rfl) k hk)
  exact ⟨a, by simpa using hk, hga⟩
theorem Opens.iso {t : TypeId} {α β : Type} {d : Kd α} {G : α → Prop} (h : Opens enc P w base spare held t d G) (f : β → α) (g : α → β) (hfg : ∀ a, f (g a) = a) : Opens enc P w base spare held t (Kd.iso d f) (fun b => G (f b)) := by
  intro fuel cs x hx hl
  obtain ⟨a, hk, hg⟩ := h _ _ _ hx hl
  exact ⟨g a, by show d.K w (f (g a)) cs; rw [hfg]; exact hk, by show G (f (g a)); rw [hfg]; exact hg⟩
end
end Go.Proofs.YtbekfmeaeaghpaaW.Open2
