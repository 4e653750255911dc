/- What One and Turned of a matrix come to. -/
import Derived.Test.YtelgefkfflgbeaaProg
import Derived.Below
import Derived.Deep.Draws
import Derived.Deep.AppendLies
import Derived.Maps.AppendAt
import Derived.OwnWalk
import Derived.Laws.BytesArg
import Derived.Laws.MakeOwn
import Derived.Laws.OwnMore
import Derived.Deep.OwnRows
import Derived.Tactics
import Derived.Lib.ConvBytes
import Derived.Laws.Slices
import Derived.WalkKit
import Derived.KernelRfl
import Derived.RowKit3
import Derived.Deep.LoopGhost
import Derived.Deep.QuietTactic
import Derived.BigQuiet
import Derived.WideLaws
import Derived.Deep.DeepCutAuto
import Derived.Deep.CutBlock
import Derived.Deep.RegionHeld3
import Derived.Laws.Rows
import Derived.Lib.AppendStr
import Derived.ArgAppend
import Derived.Laws.IdiomCopy
import Derived.OrdersHeld
import Derived.Laws.BitsLemmas
import Derived.RowKit
import Derived.Lib.Hide
import Derived.WalkSpells
import Derived.StillTailTactics
import Derived.Deep.RegionHeld3
import Derived.Outline
import Derived.Test.YtelgefkfflgbeaaMat3
namespace Go.Proofs.Ytelgefkfflgbeaa.Mat
open Go Go.RowKit Go.Proofs.Ytelgefkfflgbeaa.Mem Go.Proofs.Ytelgefkfflgbeaa.Bits Go.Proofs.YtelgefkfflgbeaaW.PrintWords
set_option linter.unusedVariables false

def oneTo (n : Nat) : Nat → List Int
  | 0 => List.replicate (n * n) 0
  | k + 1 => (oneTo n k).set (k * n + k) 1

set_option maxRecDepth 100000 in
theorem one_bad (n : Int) (w : World) (h : ¬ (1 ≤ n ∧ n ≤ 64)) :
    Calls Try.prog 22 #[.int .i64 n] w fun e w' => e = .returned (.tuple #[.pointer none, .int .i64 1]) ∧ w = w' := by
  have h' : ¬ (1 ≤ n ∧ 1 ≤ n ∧ n ≤ 64 ∧ n ≤ 64) := fun x => h ⟨x.1, x.2.2.1⟩
  have H := Lib.hid h'
  clear h h'
  go_enter Try.func22, Try.ntmps22
  go_wp2_with (go_at_call 39; refine (new_any _ _ _ H.out).mono ?_; rintro e w' ⟨rfl, rfl⟩)
  go_ret2
  exact ⟨rfl, rfl⟩

set_option maxRecDepth 100000 in
theorem one_good (n : Nat) (w : World) (i1 : 1 ≤ n) (i3 : n ≤ 64) :
    Calls Try.prog 22 #[.int .i64 n] w fun e w' => ∃ b s cap, e = .returned (.tuple #[.pointer (some ⟨b, 0, none⟩), .int .i64 0]) ∧ MatIn w' b s n n cap (oneTo n n) ∧ Below w.heap.size w w' ∧ w.heap.size ≤ b ∧ w.heap.size ≤ s := by
  go_enter Try.func22, Try.ntmps22
  go_wp2_with (go_at_call 39; refine (new_good n n _ i1 i1 i3 i3).mono ?_; rintro e w0 ⟨b, s, cap, rfl, hm, hB, hb1, hs1⟩; have HM := Lib.hid hm; have HB := Lib.hid hB; clear hm hB)
  go_loopw [6, 17] (fun _ i wr => ∃ (k : Nat), k ≤ n ∧ i = .int .i64 k ∧ Hid (MatIn wr b s n n cap (oneTo n k)) ∧ Hid (Below w.heap.size w wr)) (fun _ i _ => n - (intOf i).toNat)
  case atStart => exact ⟨0, by omega, rfl, HM, HB⟩
  case round =>
    obtain ⟨k, hk, rfl, HK, HW⟩ := hrel
    clear HM HB
    by_cases hlt : k < n
    · obtain ⟨c0, c1, c2⟩ := HK.out.cells
      have hb := idx_lt hlt hlt
      obtain ⟨hx, hf⟩ := HK.out.elem _ hb
      have hrc := HK.out.rc
      have e1 : IntKind.i64.wrap ((k : Int) * (n : Int)) = ((k * n : Nat) : Int) := by
        rw [← Int.natCast_mul]; exact IntWalk.i64_in _ (by omega)
      have HN := Lib.hid (HK.out.store (k * n + k) 1 (by omega) (by omega))
      have HV := Lib.hid (HW.out.setCell (p := ⟨s, k * n + k, none⟩) hs1 (.int .u8 1))
      change Hid (MatIn _ b s n n cap (oneTo n (k + 1))) at HN
      obtain ⟨q, hq⟩ : ∃ q, q = n * n := ⟨_, rfl⟩
      obtain ⟨p, hp⟩ : ∃ p, p = k * n := ⟨_, rfl⟩
      obtain ⟨y, hy⟩ : ∃ y, y = (oneTo n k).getD (k * n + k) 0 := ⟨_, rfl⟩
      rw [← hy] at hx
      rw [← hq] at c2 hb hrc
      rw [← hp] at hx hf e1 hb HN HV
      have a0 : (0 : Int) ≤ (p : Int) + (k : Int) := by omega
      have a1 : (p : Int) + (k : Int) < (q : Int) := by omega
      have a2 : ((p : Int) + (k : Int)).toNat = p + k := by omega
      have a3 : IntKind.i64.wrap ((p : Int) + (k : Int)) = (p : Int) + (k : Int) := IntWalk.i64_in _ (by omega)
      clear hq hp hy HK HW
      go_wp2
      go_roundw
      case rel => exact ⟨k + 1, by omega, by go_num, HN, HV⟩
      case measure => simp [intOf]; omega
    · obtain rfl : k = n := by omega
      go_wp2
      go_ret2
      exact ⟨b, s, cap, rfl, HK.out, HW.out, hb1, hs1⟩

/-- A matrix turned: k elements of row i, set into ys .. -/
def turnRow (r c : Nat) (xs : List Int) (i : Nat) : Nat → List Int → List Int
  | 0, ys => ys
  | k + 1, ys => (turnRow r c xs i k ys).set (k * r + i) (xs.getD (i * c + k) 0)
/-- .. and i rows. -/
def turnTo (r c : Nat) (xs : List Int) : Nat → List Int
  | 0 => List.replicate (r * c) 0
  | i + 1 => turnRow r c xs i c (turnTo r c xs i)

set_option maxRecDepth 100000 in
theorem turned_nil (w : World) :
    Calls Try.prog 37 #[.pointer none] w fun e w' => e = .returned (.pointer none) ∧ ∃ n, w' = w.drewN n := by
  go_enter Try.func37, Try.ntmps37
  go_wp2
  go_ret
  exact ⟨rfl, 0, rfl⟩

theorem mat_made (w : World) (r c q : Nat) (hq : q = r * c) (i1 : 1 ≤ r) (i2 : 1 ≤ c) (i3 : r ≤ 64) (i4 : c ≤ 64) :
    MatIn ((w.alloc (.cells (madeCells #[.int .u8 0] q) 5)).alloc (.cells #[.int .i64 r, .int .i64 c, .slice (some ⟨w.heap.size, 0, none⟩) q q] 56)) (w.heap.size + 1) w.heap.size r c q (List.replicate q 0) := by
  have hrc : r * c ≤ 64 * 64 := Nat.mul_le_mul i3 i4
  subst hq
  refine ⟨?_, ?_, i1, i3, i2, i4, Bytes.zeros _⟩
  · have := Blk.new (w.alloc (.cells (madeCells #[.int .u8 0] (r * c)) 5)) 56 #[.int .i64 r, .int .i64 c, .slice (some ⟨w.heap.size, 0, none⟩) (r * c) (r * c)]
    simpa using this
  · have h := own_made w 0 5 .u8 (r * c) (by omega) (by omega)
    exact own_move h (fun k hk => Below.heap_alloc _ _ k (own_lt h k hk))

theorem turnRow_len (r c : Nat) (xs : List Int) (i : Nat) (ys : List Int) : ∀ k, (turnRow r c xs i k ys).length = ys.length
  | 0 => rfl
  | k + 1 => by rw [turnRow, List.length_set, turnRow_len r c xs i ys k]

set_option maxRecDepth 100000 in
set_option maxHeartbeats 1000000 in
theorem turned_any (v : Value) (r c : Nat) (xs : List Int) (w : World) (h : IsMat w v r c xs) :
    Calls Try.prog 37 #[v] w fun e w' => ∃ b s cap, e = .returned (.pointer (some ⟨b, 0, none⟩)) ∧ MatIn w' b s c r cap (turnTo r c xs r) ∧ Below w.heap.size w w' ∧ w.heap.size ≤ b ∧ w.heap.size ≤ s := by
  obtain ⟨b, s, cap, rfl, h⟩ := h
  obtain ⟨h0, h1, h2⟩ := h.cells
  have H := Lib.hid h
  have hrc := h.rc
  obtain ⟨q, hq⟩ : ∃ q, q = r * c := ⟨_, rfl⟩
  have HMM := Lib.hid (mat_made w c r q (by rw [hq, Nat.mul_comm]) h.c0 h.r0 h.c1 h.r1)
  rw [← hq] at h2 hrc
  have km := print_make (P := Try.prog) 22 5 .u8 1 Try.underlying22 info_u8 (by decide) q (by omega)
  have HQ := Lib.hid hq
  have hr64 := h.r1
  have hc64 := h.c1
  clear h hq
  go_enter Try.func37, Try.ntmps37
  go_upto_region 3 with (fail)
  go_cut [3] (fun v3 wc => ∃ b2 s2, v3 = .pointer (some ⟨b2, 0, none⟩) ∧ Hid (MatIn wc b2 s2 c r q (turnTo r c xs 0)) ∧ Hid (Below w.heap.size w wc) ∧ w.heap.size ≤ b2 ∧ w.heap.size ≤ s2)
  case first =>
    go_region_held3 (fun W => W.cell? ⟨b, 0, none⟩ = some (.int .i64 r) ∧ W.cell? ⟨b, 1, none⟩ = some (.int .i64 c) ∧ W.cell? ⟨b, 2, none⟩ = some (.slice (some ⟨s, 0, none⟩) q cap)) (go_keep) (fail)
    all_goals
      go_wp2
      go_meet
      case rel => exact ⟨_, _, rfl, Lib.hid (by rw [turnTo, ← HQ.out]; exact HMM.out.drewN 1), Lib.hid (((((Below.refl _ _).alloc (Nat.le_refl _) _).alloc (by simp) _)).drew), by omega, by omega⟩
  case rest =>
    obtain ⟨b2, s2, rfl, HM, HB, hb2, hs2⟩ := hcut
    clear km HMM
    have g0 := (HB.out.cell (p := ⟨b, 0, none⟩) H.out.blk.lt).trans h0
    have g1 := (HB.out.cell (p := ⟨b, 1, none⟩) H.out.blk.lt).trans h1
    clear h0 h1 h2
    go_wp2
    go_loopw [4, 28] (fun _ i wr => ∃ (k : Nat), k ≤ r ∧ i = .int .i64 k ∧ Hid (MatIn wr b2 s2 c r q (turnTo r c xs k)) ∧ Hid (Below w.heap.size w wr)) (fun _ i _ => r - (intOf i).toNat)
    case atStart => exact ⟨0, by omega, rfl, HM, HB⟩
    case round =>
      obtain ⟨i, hi, rfl, HK, HW⟩ := hrel
      clear HM HB g0 g1
      by_cases hlt : i < r
      · have g1 := (HW.out.cell (p := ⟨b, 1, none⟩) H.out.blk.lt).trans H.out.cells.2.1
        go_wp2
        obtain ⟨wo, hwo⟩ : ∃ wo : World, wo = wr := ⟨_, rfl⟩
        go_loopw [5, 35] (fun _ j wr => ∃ (k : Nat), k ≤ c ∧ j = .int .i64 k ∧ Hid (MatIn wr b2 s2 c r q (turnRow r c xs i k (turnTo r c xs i))) ∧ Hid (Below w.heap.size w wr)) (fun _ j _ => c - (intOf j).toNat)
        case atStart => exact ⟨0, by omega, rfl, HK, HW⟩
        case round =>
          obtain ⟨k, hk, rfl, HK2, HW2⟩ := hrel
          clear HK HW g1
          by_cases hlk : k < c
          · have hM2 := H.out.keep (HW2.out.block b H.out.blk.lt) (HW2.out.block s H.out.slt)
            obtain ⟨m0, m1, m2⟩ := hM2.cells
            obtain ⟨o0, o1, o2⟩ := HK2.out.cells
            have hb1 := idx_lt hlt hlk
            have hb3 := idx_lt hlk hlt
            obtain ⟨mx, _⟩ := hM2.elem _ hb1
            obtain ⟨ox, of⟩ := HK2.out.elem _ hb3
            have hbx := hM2.byt.getD (i * c + k)
            have HN := Lib.hid ((HK2.out.drewN 1).store (k * r + i) (xs.getD (i * c + k) 0) hbx.1 hbx.2)
            have HV := Lib.hid ((pw_below_drewN HW2.out 1).setCell (p := ⟨s2, k * r + i, none⟩) hs2 (.int .u8 (xs.getD (i * c + k) 0)))
            change Hid (MatIn _ b2 s2 c r q (turnRow r c xs i (k + 1) (turnTo r c xs i))) at HN
            have hrc2 := HK2.out.rc
            have hrc1 := hM2.rc
            have e1 : IntKind.i64.wrap ((i : Int) * (c : Int)) = ((i * c : Nat) : Int) := by
              rw [← Int.natCast_mul]; exact IntWalk.i64_in _ (by omega)
            have e2 : IntKind.i64.wrap ((k : Int) * (r : Int)) = ((k * r : Nat) : Int) := by
              rw [← Int.natCast_mul]; exact IntWalk.i64_in _ (by omega)
            obtain ⟨q2, hq2⟩ : ∃ q, q = c * r := ⟨_, rfl⟩
            obtain ⟨q1, hq1⟩ : ∃ q, q = r * c := ⟨_, rfl⟩
            obtain ⟨p, hp⟩ : ∃ p, p = i * c := ⟨_, rfl⟩
            obtain ⟨p2, hp2⟩ : ∃ p, p = k * r := ⟨_, rfl⟩
            rw [← hq1] at m2 hb1
            rw [← hq2] at o2 hb3 hrc2
            rw [← hp] at mx e1 hb1 HN HV
            rw [← hp2] at ox of e2 hb3 HN HV
            obtain ⟨x, hx⟩ : ∃ x, x = xs.getD (p + k) 0 := ⟨_, rfl⟩
            rw [← hx] at mx HN HV
            obtain ⟨y, hy⟩ : ∃ y, y = (turnRow r c xs i k (turnTo r c xs i)).getD (p2 + i) 0 := ⟨_, rfl⟩
            rw [← hy] at ox
            have hq12 : q1 = q := by rw [hq1, HQ.out]
            rw [hq12] at m2 hb1
            have a0 : (0 : Int) ≤ (p : Int) + (k : Int) := by omega
            have a1 : (p : Int) + (k : Int) < (q : Int) := by omega
            have a2 : ((p : Int) + (k : Int)).toNat = p + k := by omega
            have a3 : IntKind.i64.wrap ((p : Int) + (k : Int)) = (p : Int) + (k : Int) := IntWalk.i64_in _ (by omega)
            have d0 : (0 : Int) ≤ (p2 : Int) + (i : Int) := by omega
            have d1 : (p2 : Int) + (i : Int) < (q2 : Int) := by omega
            have d2 : ((p2 : Int) + (i : Int)).toNat = p2 + i := by omega
            have d3 : IntKind.i64.wrap ((p2 : Int) + (i : Int)) = (p2 : Int) + (i : Int) := IntWalk.i64_in _ (by omega)
            clear hq1 hq2 hp hp2 hx hy HK2 HW2 hM2 hbx hq12 hwo
            go_wp2
            refine wp_region_still_tail 27 (by kernel_rfl) (by kernel_rfl) ?_
            change wpStill _ _ (wr.drewN 1) (fun a' => wpList _ _ _ _ a' (wr.drewN 1)) _ _
            simp only [List.take_succ_cons, List.take_zero, List.drop_succ_cons, List.drop_zero]
            repeat still_step
            refine wpStill_nil ?_
            go_wp2
            go_roundw
            case rel => exact ⟨k + 1, by omega, by go_num, HN, HV⟩
            case measure => simp [intOf]; omega
          · obtain rfl : k = c := by omega
            go_wp2
            go_roundw
            case rel => exact ⟨i + 1, by omega, by go_num, HK2, HW2⟩
            case measure => simp [intOf]; omega
      · obtain rfl : i = r := by omega
        go_wp2
        go_ret
        exact ⟨b2, s2, q, rfl, HK.out, HW.out, hb2, hs2⟩
end Go.Proofs.Ytelgefkfflgbeaa.Mat
