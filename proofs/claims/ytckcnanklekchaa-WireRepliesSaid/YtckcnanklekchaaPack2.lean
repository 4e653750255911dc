/- The writer's Shard. -/
import Derived.Test.YtckcnanklekchaaProg
import Derived.Below
import Derived.Deep.Draws
import Derived.Deep.AppendLies
import Derived.Maps.AppendAt
import Derived.OwnWalk
import Derived.Laws.BytesArg
import Derived.Laws.MakeOwn
import Derived.Laws.OwnMore
import Derived.Deep.OwnRows
import Derived.Tactics
import Derived.Lib.ConvBytes
import Derived.Laws.Slices
import Derived.WalkKit
import Derived.KernelRfl
import Derived.RowKit3
import Derived.Deep.LoopGhost
import Derived.Deep.QuietTactic
import Derived.BigQuiet
import Derived.WideLaws
import Derived.Deep.DeepCutAuto
import Derived.Deep.CutBlock
import Derived.Deep.RegionHeld3
import Derived.Laws.Rows
import Derived.Lib.AppendStr
import Derived.ArgAppend
import Derived.Laws.IdiomCopy
import Derived.OrdersHeld
import Derived.Laws.BitsLemmas
import Derived.RowKit
import Derived.Lib.Hide
import Derived.WalkSpells
import Derived.StillTailTactics
import Derived.Outline
import Derived.Test.YtckcnanklekchaaPack1
namespace Go.Proofs.Ytckcnanklekchaa.Pack
open Go Go.RowKit Go.Proofs.Ytckcnanklekchaa.Mem Go.Proofs.Ytckcnanklekchaa.Bits Go.Proofs.YtckcnanklekchaaW.PrintWords
set_option linter.unusedVariables false

def shardB (o s t g : Nat) : List Int := leB o 4 ++ leB s 2 ++ leB t 2 ++ leB g 4
theorem below_of_drewN {w w' : World} {n : Nat} (h : Below (w.drewN n).heap.size (w.drewN n) w') : Below w.heap.size w w' := ⟨h.os, h.tape, h.output, h.size, h.block⟩
theorem WrTo.drew {w w1 : World} {base g : Nat} {v v1 : Value} {xs : List Int} (h : WrTo w base g v w1 v1 xs) : WrTo w base g v w1.drew v1 xs := h.next (below_drew (Below.refl _ _))
theorem grow_len {xs : List Int} {a n : Nat} {size : Int} (h : xs.length ≤ a) : (xs ++ leB n (cnt size)).length ≤ a + 8 := by
  rw [List.length_append, leB_len]; unfold cnt; omega
theorem wr_grow {w W : World} {base g : Nat} {v v1 : Value} {xs : List Int} (h : WrTo w base g v W v1 xs) (n : Nat) (size : Int) (hn : n < U64) {a : Nat} (hl : xs.length ≤ a) (ha : a ≤ 900000) :
    Calls Try.prog 27 #[.pointer (some ⟨g, 0, none⟩), .int .u64 n, .int .i64 size] W fun e w' => e = .returned (.pointer (some ⟨g, 0, none⟩)) ∧ ∃ v2, WrTo w base g v w' v2 (xs ++ leB n (cnt size)) ∧ (xs ++ leB n (cnt size)).length ≤ a + 8 := by
  refine (num_any base g v1 xs n size W h.wr hn (by omega)).mono ?_
  rintro e w' ⟨rfl, v2, h2⟩
  exact ⟨rfl, v2, h.trans h2, grow_len hl⟩
theorem cell_kept {w W : World} {base g : Nat} {v v1 : Value} {xs : List Int} (h : WrTo w base g v W v1 xs) {a : Addr} {u : Value} (hc : w.cell? a = some u) (h1 : a.block ≠ g) (h2 : some a.block ≠ v.ownBlock) : W.cell? a = some u :=
  (World.cell?_of_block (h.keep.2 a.block (World.block_lt_of_cell? w a hc) h1 h2)).trans hc
set_option maxRecDepth 100000 in
set_option maxHeartbeats 1000000 in
theorem shard_any (base g : Nat) (v : Value) (xs : List Int) (o s t q : Nat) (w : World) (h : Wr w base g v xs) (ho : o < 4294967296) (hs : s < 65536) (ht : t < 65536) (hq : q < 4294967296) (hl : xs.length ≤ 800000) :
    Calls Try.prog 28 #[.pointer (some ⟨g, 0, none⟩), .agg #[.int .u32 o, .int .u16 s, .int .u16 t, .int .u32 q]] w (WrPost base g v (xs ++ shardB o s t q) w) := by
  obtain ⟨W, hW⟩ : ∃ W, W = w.alloc (.cells #[.int .u32 o, .int .u16 s, .int .u16 t, .int .u32 q] 26) := ⟨_, rfl⟩
  have hb : Below w.heap.size w W := by rw [hW]; exact (Below.refl _ _).alloc (Nat.le_refl _) _
  have hA := h.below hb
  have hB : Blk W w.heap.size 26 #[.int .u32 o, .int .u16 s, .int .u16 t, .int .u32 q] := by rw [hW]; exact Blk.new _ _ _
  have hg1 : w.heap.size ≠ g := by have := h.blk.lt; omega
  have hg2 : some w.heap.size ≠ v.ownBlock := fun e => by have := own_lt h.row _ e.symm; omega
  have HT := Lib.hid (h.to.next hb)
  have c0 : W.cell? ⟨w.heap.size, 0, none⟩ = some (.int .u32 o) := (hB.cell 0).trans rfl
  have c1 : W.cell? ⟨w.heap.size, 1, none⟩ = some (.int .u16 s) := (hB.cell 1).trans rfl
  have c2 : W.cell? ⟨w.heap.size, 2, none⟩ = some (.int .u16 t) := (hB.cell 2).trans rfl
  have c3 : W.cell? ⟨w.heap.size, 3, none⟩ = some (.int .u32 q) := (hB.cell 3).trans rfl
  have HW := Lib.hid hW
  have HV := Lib.hid hA.to
  have HL := Lib.hid hl
  have e1 : IntKind.u64.wrap (o : Int) = (o : Int) := wraps_u64 _ (by omega) (by omega)
  have e2 : IntKind.u64.wrap (s : Int) = (s : Int) := wraps_u64 _ (by omega) (by omega)
  have e3 : IntKind.u64.wrap (t : Int) = (t : Int) := wraps_u64 _ (by omega) (by omega)
  have e4 : IntKind.u64.wrap (q : Int) = (q : Int) := wraps_u64 _ (by omega) (by omega)
  clear h hA hB hb hW
  go_enter Try.func28, Try.ntmps28
  go_upto_region 1 with (fail)
  rw [← HW.out]
  clear HW
  go_region_held3 (fun W => W.cell? ⟨w.heap.size, 0, none⟩ = some (.int .u32 o) ∧ W.cell? ⟨w.heap.size, 1, none⟩ = some (.int .u16 s) ∧ W.cell? ⟨w.heap.size, 2, none⟩ = some (.int .u16 t) ∧ W.cell? ⟨w.heap.size, 3, none⟩ = some (.int .u32 q)) (go_keep)
    (first
      | (go_at_call 27; (refine (wr_grow (by first | exact HV.out | exact HV.out.drew) _ _ (by unfold U64; omega) HL.out (by decide)).mono ?_); rintro e w1 ⟨rfl, v1, h1, h2⟩; have H1 := Lib.hid h1; have HLn := Lib.hid h2; clear h1 h2; have c0n := cell_kept H1.out c0 hg1 hg2; have c1n := cell_kept H1.out c1 hg1 hg2; have c2n := cell_kept H1.out c2 hg1 hg2; have c3n := cell_kept H1.out c3 hg1 hg2; clear HL; have HL := HLn; clear HLn; clear HV; have HV := H1; clear H1))
  go_wp2
  go_ret
  exact ⟨rfl, _, by have h := HT.out.trans HV.out; simpa only [shardB, List.append_assoc, show cnt 4 = 4 from rfl, show cnt 2 = 2 from rfl] using h⟩
end Go.Proofs.Ytckcnanklekchaa.Pack
