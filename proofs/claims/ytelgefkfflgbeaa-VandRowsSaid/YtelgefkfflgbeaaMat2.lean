/- What the small methods of a matrix come to: Size, is, At, Row, Copy, Set, New. -/
import Derived.Test.YtelgefkfflgbeaaProg
import Derived.Below
import Derived.Deep.Draws
import Derived.Deep.AppendLies
import Derived.Maps.AppendAt
import Derived.OwnWalk
import Derived.Laws.BytesArg
import Derived.Laws.MakeOwn
import Derived.Laws.OwnMore
import Derived.Deep.OwnRows
import Derived.Tactics
import Derived.Lib.ConvBytes
import Derived.Laws.Slices
import Derived.WalkKit
import Derived.KernelRfl
import Derived.RowKit3
import Derived.Deep.LoopGhost
import Derived.Deep.QuietTactic
import Derived.BigQuiet
import Derived.WideLaws
import Derived.Deep.DeepCutAuto
import Derived.Deep.CutBlock
import Derived.Deep.RegionHeld3
import Derived.Laws.Rows
import Derived.Lib.AppendStr
import Derived.ArgAppend
import Derived.Laws.IdiomCopy
import Derived.OrdersHeld
import Derived.Laws.BitsLemmas
import Derived.RowKit
import Derived.Lib.Hide
import Derived.WalkSpells
import Derived.StillTailTactics
import Derived.Outline
import Derived.Test.YtelgefkfflgbeaaMat1
namespace Go.Proofs.Ytelgefkfflgbeaa.Mat
open Go Go.RowKit Go.Proofs.Ytelgefkfflgbeaa.Mem Go.Proofs.Ytelgefkfflgbeaa.Bits Go.Proofs.YtelgefkfflgbeaaW.PrintWords
set_option linter.unusedVariables false

set_option maxRecDepth 100000 in
theorem size_nil (w : World) :
    Calls Try.prog 18 #[.pointer none] w fun e w' => e = .returned (.tuple #[.int .i64 0, .int .i64 0]) ∧ ∃ n, w' = w.drewN n := by
  go_enter Try.func18, Try.ntmps18
  go_wp2
  go_ret2
  exact ⟨rfl, 0, rfl⟩
set_option maxRecDepth 100000 in
theorem size_any (v : Value) (r c : Nat) (xs : List Int) (w : World) (h : IsMat w v r c xs) :
    Calls Try.prog 18 #[v] w fun e w' => e = .returned (.tuple #[.int .i64 r, .int .i64 c]) ∧ ∃ n, w' = w.drewN n := by
  obtain ⟨b, s, cap, rfl, h⟩ := h
  obtain ⟨h0, h1, _⟩ := h.cells
  clear h
  go_enter Try.func18, Try.ntmps18
  go_wp2
  go_quiet (fail)
  go_wp2
  go_ret2
  exact ⟨rfl, _, rfl⟩

/-- Is a place in? -/
def Within (r c : Nat) (i k : Int) : Prop := 0 ≤ i ∧ 0 ≤ k ∧ i < r ∧ k < c

set_option maxRecDepth 100000 in
theorem is_nil (i k : Int) (w : World) :
    Calls Try.prog 34 #[.pointer none, .int .i64 i, .int .i64 k] w fun e w' => e = .returned (.bool false) ∧ ∃ n, w' = w.drewN n := by
  go_enter Try.func34, Try.ntmps34
  go_wp2
  go_ret
  exact ⟨rfl, 0, rfl⟩

set_option maxRecDepth 100000 in
theorem is_in (v : Value) (r c : Nat) (xs : List Int) (i k : Int) (w : World) (h : IsMat w v r c xs) (hi : Within r c i k) :
    Calls Try.prog 34 #[v, .int .i64 i, .int .i64 k] w fun e w' => e = .returned (.bool true) ∧ ∃ n, w' = w.drewN n := by
  obtain ⟨b, s, cap, rfl, h⟩ := h
  obtain ⟨h0, h1, _⟩ := h.cells
  obtain ⟨i1, i2, i3, i4⟩ := hi
  clear h
  go_enter Try.func34, Try.ntmps34
  go_wp2
  go_ret
  exact ⟨rfl, 0, rfl⟩

set_option maxRecDepth 100000 in
theorem is_out (v : Value) (r c : Nat) (xs : List Int) (i k : Int) (w : World) (h : IsMat w v r c xs) (hi : ¬ Within r c i k) :
    Calls Try.prog 34 #[v, .int .i64 i, .int .i64 k] w fun e w' => e = .returned (.bool false) ∧ ∃ n, w' = w.drewN n := by
  obtain ⟨b, s, cap, rfl, h⟩ := h
  obtain ⟨h0, h1, _⟩ := h.cells
  clear h
  unfold Within at hi
  by_cases i1 : 0 ≤ i
  · by_cases i2 : 0 ≤ k
    · by_cases i3 : i < r
      · have i4 : ¬ k < c := by omega
        clear hi
        go_enter Try.func34, Try.ntmps34
        go_wp2
        go_ret
        exact ⟨rfl, 0, rfl⟩
      · clear hi
        go_enter Try.func34, Try.ntmps34
        go_wp2
        go_ret
        exact ⟨rfl, 0, rfl⟩
    · clear hi
      go_enter Try.func34, Try.ntmps34
      go_wp2
      go_ret
      exact ⟨rfl, 0, rfl⟩
  · clear hi
    go_enter Try.func34, Try.ntmps34
    go_wp2
    go_ret
    exact ⟨rfl, 0, rfl⟩

theorem idx_lt {r c i k : Nat} (hi : i < r) (hk : k < c) : i * c + k < r * c := by
  have : (i + 1) * c ≤ r * c := Nat.mul_le_mul_right c hi
  rw [Nat.add_mul] at this; omega

theorem new_any (r c : Int) (w : World) (h : ¬ (1 ≤ r ∧ 1 ≤ c ∧ r ≤ 64 ∧ c ≤ 64)) :
    Calls Try.prog 39 #[.int .i64 r, .int .i64 c] w fun e w' => e = .returned (.tuple #[.pointer none, .int .i64 1]) ∧ w = w' := by
  by_cases i1 : r < 1
  · clear h
    go_enter Try.func39, Try.ntmps39
    go_wp2
    go_ret2
    exact ⟨rfl, rfl⟩
  · by_cases i2 : c < 1
    · clear h
      go_enter Try.func39, Try.ntmps39
      go_wp2
      go_ret2
      exact ⟨rfl, rfl⟩
    · by_cases i3 : 64 < r
      · clear h
        go_enter Try.func39, Try.ntmps39
        go_wp2
        go_ret2
        exact ⟨rfl, rfl⟩
      · have i4 : 64 < c := by omega
        clear h
        go_enter Try.func39, Try.ntmps39
        go_wp2
        go_ret2
        exact ⟨rfl, rfl⟩

theorem mat_new {w : World} (r c : Nat) (i1 : 1 ≤ r) (i2 : 1 ≤ c) (i3 : r ≤ 64) (i4 : c ≤ 64) (b s : Nat) (xs : List Int) (hb : Blk w b 56 #[.int .i64 r, .int .i64 c, .slice (some ⟨s, 0, none⟩) (r * c) (r * c)])
    (ho : w.ownsRow 0 5 1 (.slice (some ⟨s, 0, none⟩) (r * c) (r * c)) (r * c) (nums .u8 xs)) (hy : Bytes xs) : MatIn w b s r c (r * c) xs := ⟨hb, ho, i1, i3, i2, i4, hy⟩

set_option maxRecDepth 100000 in
theorem new_good (r c : Nat) (w : World) (i1 : 1 ≤ r) (i2 : 1 ≤ c) (i3 : r ≤ 64) (i4 : c ≤ 64) :
    Calls Try.prog 39 #[.int .i64 r, .int .i64 c] w fun e w' => ∃ b s cap, e = .returned (.tuple #[.pointer (some ⟨b, 0, none⟩), .int .i64 0]) ∧ MatIn w' b s r c cap (List.replicate (r * c) 0) ∧ Below w.heap.size w w' ∧ w.heap.size ≤ b ∧ w.heap.size ≤ s := by
  have hrc : r * c ≤ 64 * 64 := Nat.mul_le_mul i3 i4
  have e1 : IntKind.i64.wrap ((r : Int) * (c : Int)) = ((r * c : Nat) : Int) := by
    rw [← Int.natCast_mul]; exact IntWalk.i64_in _ (by omega)
  have hM := fun w b s => @mat_new w r c i1 i2 i3 i4 b s (List.replicate (r * c) 0)
  obtain ⟨q, hq⟩ : ∃ q, q = r * c := ⟨_, rfl⟩
  rw [← hq] at hrc e1 hM ⊢
  have km := print_make (P := Try.prog) 22 5 .u8 1 Try.underlying22 info_u8 (by decide) q (by omega)
  have HO := Lib.hid (own_made w 0 5 .u8 q (by omega) (by omega))
  have HM := Lib.hid hM
  clear hq hM
  go_enter Try.func39, Try.ntmps39
  go_wp2
  clear km e1
  refine bodyPost_ret (v := .tuple #[.pointer (some ⟨w.heap.size + 1, 0, none⟩), .int .i64 0]) (by simp [results, Try.results39, go_sem]) rfl ⟨_, w.heap.size, q, rfl, HM.out _ _ _ ?_ ?_ (Bytes.zeros _), ?_, ?_, ?_⟩
  · have := Blk.new (w.alloc (.cells (madeCells #[.int .u8 0] q) 5)) 56 #[.int .i64 r, .int .i64 c, .slice (some ⟨w.heap.size, 0, none⟩) q q]
    simpa using this
  · have h := HO.out
    have hb : Below (w.alloc (.cells (madeCells #[.int .u8 0] q) 5)).heap.size (w.alloc (.cells (madeCells #[.int .u8 0] q) 5)) ((w.alloc (.cells (madeCells #[.int .u8 0] q) 5)).alloc (.cells #[.int .i64 r, .int .i64 c, .slice (some ⟨w.heap.size, 0, none⟩) q q] 56)) := (Below.refl _ _).alloc (Nat.le_refl _) _
    exact own_move h (fun k hk => hb.block k (own_lt h k hk))
  · exact ((Below.refl _ _).alloc (Nat.le_refl _) _).alloc (by simp) _
  · omega
  · omega
end Go.Proofs.Ytelgefkfflgbeaa.Mat
