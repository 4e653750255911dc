/- Matrices in memory: what a pointer to one tells, and what stays. -/
import Derived.Test.YtelgefkfflgbeaaProg
import Derived.Below
import Derived.Deep.Draws
import Derived.Deep.AppendLies
import Derived.Maps.AppendAt
import Derived.OwnWalk
import Derived.Laws.BytesArg
import Derived.Laws.MakeOwn
import Derived.Laws.OwnMore
import Derived.Deep.OwnRows
import Derived.Tactics
import Derived.Lib.ConvBytes
import Derived.Laws.Slices
import Derived.WalkKit
import Derived.KernelRfl
import Derived.RowKit3
import Derived.Deep.LoopGhost
import Derived.Deep.QuietTactic
import Derived.BigQuiet
import Derived.WideLaws
import Derived.Deep.DeepCutAuto
import Derived.Deep.CutBlock
import Derived.Deep.RegionHeld3
import Derived.Laws.Rows
import Derived.Lib.AppendStr
import Derived.ArgAppend
import Derived.Laws.IdiomCopy
import Derived.OrdersHeld
import Derived.Laws.BitsLemmas
import Derived.RowKit
import Derived.Lib.Hide
import Derived.WalkSpells
import Derived.Outline
import Derived.Test.YtelgefkfflgbeaaWWords
import Derived.Test.YtelgefkfflgbeaaMat0
namespace Go.Proofs.Ytelgefkfflgbeaa.Mat
open Go Go.RowKit Go.Proofs.Ytelgefkfflgbeaa.Mem Go.Proofs.Ytelgefkfflgbeaa.Bits Go.Proofs.YtelgefkfflgbeaaW.PrintWords
set_option linter.unusedVariables false

/-- All are bytes. -/
def Bytes (xs : List Int) : Prop := ∀ x ∈ xs, 0 ≤ x ∧ x < 256
theorem Bytes.getD {xs : List Int} (h : Bytes xs) (i : Nat) : 0 ≤ xs.getD i 0 ∧ xs.getD i 0 < 256 := by
  rw [List.getD_eq_getElem?_getD]
  cases e : xs[i]? with
  | none => simp
  | some x => exact h x (List.mem_of_getElem? e)
theorem Bytes.set {xs : List Int} (h : Bytes xs) (i : Nat) (x : Int) (h0 : 0 ≤ x) (h1 : x < 256) : Bytes (xs.set i x) := by
  intro y hy
  rcases List.mem_or_eq_of_mem_set hy with h' | h'
  · exact h y h'
  · subst h'; exact ⟨h0, h1⟩
theorem Bytes.append {xs ys : List Int} (h : Bytes xs) (h' : Bytes ys) : Bytes (xs ++ ys) := by
  intro y hy
  rcases List.mem_append.1 hy with e | e
  · exact h y e
  · exact h' y e
theorem Bytes.take {xs : List Int} (h : Bytes xs) (n : Nat) : Bytes (xs.take n) := fun y hy => h y (List.mem_of_mem_take hy)
theorem Bytes.drop {xs : List Int} (h : Bytes xs) (n : Nat) : Bytes (xs.drop n) := fun y hy => h y (List.mem_of_mem_drop hy)
theorem Bytes.zeros (n : Nat) : Bytes (List.replicate n 0) := fun y hy => by have := List.eq_of_mem_replicate hy; omega

/-- The struct's block and the row's block of a matrix. -/
structure MatIn (w : World) (b s r c cap : Nat) (xs : List Int) : Prop where
  blk : Blk w b 56 #[.int .i64 r, .int .i64 c, .slice (some ⟨s, 0, none⟩) (r * c) cap]
  own : w.ownsRow 0 5 1 (.slice (some ⟨s, 0, none⟩) (r * c) cap) (r * c) (nums .u8 xs)
  r0 : 1 ≤ r
  r1 : r ≤ 64
  c0 : 1 ≤ c
  c1 : c ≤ 64
  byt : Bytes xs

section
variable {w w' : World} {b s r c cap : Nat} {xs : List Int}
theorem MatIn.len (h : MatIn w b s r c cap xs) : xs.length = r * c := by
  have := h.own.1
  simpa [nums] using this
theorem MatIn.rc (h : MatIn w b s r c cap xs) : r * c ≤ 4096 := Nat.le_trans (Nat.mul_le_mul h.r1 h.c1) (by decide)
theorem MatIn.pos (h : MatIn w b s r c cap xs) : 0 < r * c := Nat.mul_pos h.r0 h.c0
theorem MatIn.cells (h : MatIn w b s r c cap xs) : w.cell? ⟨b, 0, none⟩ = some (.int .i64 r) ∧ w.cell? ⟨b, 1, none⟩ = some (.int .i64 c) ∧ w.cell? ⟨b, 2, none⟩ = some (.slice (some ⟨s, 0, none⟩) (r * c : Nat) cap) :=
  ⟨(h.blk.cell 0).trans rfl, (h.blk.cell 1).trans rfl, (h.blk.cell 2).trans rfl⟩
theorem MatIn.elem (h : MatIn w b s r c cap xs) (n : Nat) (hn : n < r * c) : w.cell? ⟨s, n, none⟩ = some (.int .u8 (xs.getD n 0)) ∧ w.frozen? ⟨s, n, none⟩ = false := by
  have := own_at h.own (n : Int) (by omega) (by omega)
  simpa [rd] using this
theorem MatIn.reads (h : MatIn w b s r c cap xs) : ReadsInt w .u8 (some ⟨s, 0, none⟩) xs.length xs := by
  have := own_reads' h.own
  rw [h.len]; exact this
theorem MatIn.capLe (h : MatIn w b s r c cap xs) : r * c ≤ cap := by
  rcases h.own.2 with ⟨e, _⟩ | ⟨g, c', cur, e, _, _, hc, _⟩
  · cases e
  · cases e; exact hc
theorem MatIn.slt (h : MatIn w b s r c cap xs) : s < w.heap.size := own_lt h.own s rfl
theorem MatIn.ne (h : MatIn w b s r c cap xs) : b ≠ s := by
  intro e
  exact own_blk_ne h.own h.blk (by decide) (by simp [Value.ownBlock, e])
theorem MatIn.keep (h : MatIn w b s r c cap xs) (hb : w'.heap[b]? = w.heap[b]?) (hs : w'.heap[s]? = w.heap[s]?) : MatIn w' b s r c cap xs :=
  ⟨hb.trans h.blk, own_move h.own (fun k hk => by
    have e : s = k := by simpa [Value.ownBlock] using hk
    subst e; exact hs), h.r0, h.r1, h.c0, h.c1, h.byt⟩
theorem MatIn.below (h : MatIn w b s r c cap xs) (hb : Below w.heap.size w w') : MatIn w' b s r c cap xs :=
  h.keep (hb.block b h.blk.lt) (hb.block s h.slt)
theorem MatIn.drewN (h : MatIn w b s r c cap xs) (n : Nat) : MatIn (w.drewN n) b s r c cap xs := h.keep rfl rfl
theorem MatIn.alloc (h : MatIn w b s r c cap xs) (o : Obj) : MatIn (w.alloc o) b s r c cap xs := h.below ((Below.refl _ _).alloc (Nat.le_refl _) o)
theorem MatIn.far (h : MatIn w b s r c cap xs) {p : Addr} (hb : b ≠ p.block) (hs : s ≠ p.block) (u : Value) : MatIn (w.setCell p u) b s r c cap xs :=
  h.keep (Below.heap_setCell w p u b hb) (Below.heap_setCell w p u s hs)
theorem MatIn.store (h : MatIn w b s r c cap xs) (n : Nat) (x : Int) (h0 : 0 ≤ x) (h1 : x < 256) : MatIn (w.setCell ⟨s, n, none⟩ (.int .u8 x)) b s r c cap (xs.set n x) := by
  refine ⟨h.blk.far (p := ⟨s, n, none⟩) h.ne _, ?_, h.r0, h.r1, h.c0, h.c1, h.byt.set n x h0 h1⟩
  have := (own_store h.own (n : Int) x).1
  simpa using this
end
/-- A pointer to a matrix. -/
def IsMat (w : World) (v : Value) (r c : Nat) (xs : List Int) : Prop := ∃ b s cap, v = .pointer (some ⟨b, 0, none⟩) ∧ MatIn w b s r c cap xs
theorem IsMat.below {w w' : World} {v : Value} {r c : Nat} {xs : List Int} (h : IsMat w v r c xs) (hb : Below w.heap.size w w') : IsMat w' v r c xs := by
  obtain ⟨b, s, cap, e, h⟩ := h
  exact ⟨b, s, cap, e, h.below hb⟩
theorem IsMat.drewN {w : World} {v : Value} {r c : Nat} {xs : List Int} (h : IsMat w v r c xs) (n : Nat) : IsMat (w.drewN n) v r c xs := by
  obtain ⟨b, s, cap, e, h⟩ := h
  exact ⟨b, s, cap, e, h.drewN n⟩
theorem IsMat.ptr {w : World} {v : Value} {r c : Nat} {xs : List Int} (h : IsMat w v r c xs) : ∃ b, v = .pointer (some ⟨b, 0, none⟩) := by
  obtain ⟨b, s, cap, e, h⟩ := h
  exact ⟨b, e⟩
end Go.Proofs.Ytelgefkfflgbeaa.Mat
