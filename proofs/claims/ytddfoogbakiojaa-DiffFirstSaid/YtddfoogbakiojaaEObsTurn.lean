/-
  An observation one part of which is turned: words for the walks of DiffOne and DiffFirst.
-/
import Derived.Test.YtddfoogbakiojaaEAwake
import Derived.Test.YtddfoogbakiojaaWHand2
namespace Go.Proofs.Ytddfoogbakiojaa.EObs
open Go Go.RowKit Go.Proofs.Ytddfoogbakiojaa.F Go.Proofs.Ytddfoogbakiojaa.PureObs Go.Proofs.YtddfoogbakiojaaW.Hand Go.Proofs.YtddfoogbakiojaaW.PrintWords Go.Proofs.YtddfoogbakiojaaW.PrintLast Go.Proofs.YtddfoogbakiojaaW.PrintMore
set_option linter.unusedVariables false
set_option linter.unusedSimpArgs false

theorem hFK53 (W : World) (okp : Nat → Prop) (x y : Int) : Kd.FK k53 W okp (⟨x, y, []⟩ : S53) [.int .i64 x, .int .i64 y, .slice none 0 0] := fun W' _ => k53_mk W' _ (Nat.le_refl _) (Kd.C_nil _ _)
theorem hFK29 (W : World) (okp : Nat → Prop) (x y : Int) : Kd.FK k29 W okp (⟨x, y⟩ : S29) [.int .i64 x, .int .i64 y] := fun W' _ => k29_mk W' _
theorem hFK68 (W : World) (okp : Nat → Prop) (x : Int) : Kd.FK k68 W okp (⟨x, []⟩ : S68) [.int .i64 x, .slice none 0 0] := fun W' _ => k68_mk W' _ (Nat.le_refl _) (Kd.C_nil _ _)
theorem hFKi (W : World) (okp : Nat → Prop) (x : Int) : Kd.FK (Kd.int .i64) W okp x [.int .i64 x] := fun W' _ => rfl
theorem heap29 : Kd.Heap k29 := Kd.heap_iso _ (Kd.heap_pair (Kd.heap_int _) (Kd.heap_int _))
theorem heap53 : Kd.Heap k53 := Kd.heap_iso _ (Kd.heap_pair (Kd.heap_int _) (Kd.heap_pair (Kd.heap_int _) (Kd.heap_slice 29 heap29)))
theorem heap68 : Kd.Heap k68 := Kd.heap_iso _ (Kd.heap_pair (Kd.heap_int _) (Kd.heap_slice 29 heap29))
theorem xor_ne (x : Int) : bits .xor .i64 x 1 ≠ x := by
  intro h
  have h2 : BitVec.ofInt 64 (bits .xor .i64 x 1) = BitVec.ofInt 64 x := by rw [h]
  have h3 : BitVec.ofInt 64 (bits .xor .i64 x 1) = BitVec.ofInt 64 x ^^^ 1#64 := by
    have e : bits .xor .i64 x 1 = IntKind.i64.wrap ((BitVec.ofInt 64 x ^^^ BitVec.ofInt 64 1).toNat : Int) := rfl
    rw [e, IntKind.wrap_i64]
    apply BitVec.eq_of_toNat_eq
    have hlt := (BitVec.ofInt 64 x ^^^ 1#64).isLt
    have e1 : BitVec.ofInt 64 1 = 1#64 := rfl
    rw [e1]
    rw [BitVec.toNat_ofInt]
    omega
  rw [h3] at h2
  have h4 : (BitVec.ofInt 64 x ^^^ 1#64) ^^^ BitVec.ofInt 64 x = BitVec.ofInt 64 x ^^^ BitVec.ofInt 64 x := by rw [h2]
  rw [BitVec.xor_self, BitVec.xor_comm, ← BitVec.xor_assoc, BitVec.xor_self, BitVec.zero_xor] at h4
  exact absurd h4 (by decide)
theorem F_now' {α : Type} {d : Kd α} {w w1 W : World} {A : Option Addr} {n : Nat} {xs : List α} (h : Kd.F d w (fun k => k < w.heap.size) A n xs) (hb : Below w.heap.size w w1) (hy : Below w1.heap.size w1 W) : Kd.F d W (fun k => k < w.heap.size) A n xs :=
  Kd.F_step h (fun k hk hlt => (hy.block k (Nat.lt_of_lt_of_le hlt hb.size)).trans (hb.block k hlt))
theorem fresh_ne {k n : Nat} {v : Value} (hk : k < n) (h : ∃ m, v.ownBlock = some m ∧ n ≤ m) : some k ≠ v.ownBlock := by
  obtain ⟨m, e, hm⟩ := h
  rw [e]
  intro he
  injection he with he
  omega
theorem str_ne (s : ByteArray) (x : UInt8) : ¬ s.toList = (s ++ ⟨#[x]⟩ : ByteArray).toList := by
  intro h
  have h1 := congrArg List.length h
  rw [ByteArray.toList_eq, ByteArray.toList_eq] at h1
  simp at h1
theorem new_ne {w w1 : World} {m : Nat} {v : Value} (h : w.heap.size ≤ w1.heap.size) (hy : w1.heap.size ≤ m) (hat : ∃ b, v.ownBlock = some b ∧ m ≤ b) : ∀ k, k < w.heap.size → some k ≠ v.ownBlock := by
  obtain ⟨b, e, hb⟩ := hat
  intro k hk he
  rw [e] at he
  injection he with he
  omega

end Go.Proofs.Ytddfoogbakiojaa.EObs
