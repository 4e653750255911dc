/- What Row, Copy and One of a matrix come to. -/
import Derived.Test.YtelgefkfflgbeaaProg
import Derived.Below
import Derived.Deep.Draws
import Derived.Deep.AppendLies
import Derived.Maps.AppendAt
import Derived.OwnWalk
import Derived.Laws.BytesArg
import Derived.Laws.MakeOwn
import Derived.Laws.OwnMore
import Derived.Deep.OwnRows
import Derived.Tactics
import Derived.Lib.ConvBytes
import Derived.Laws.Slices
import Derived.WalkKit
import Derived.KernelRfl
import Derived.RowKit3
import Derived.Deep.LoopGhost
import Derived.Deep.QuietTactic
import Derived.BigQuiet
import Derived.WideLaws
import Derived.Deep.DeepCutAuto
import Derived.Deep.CutBlock
import Derived.Deep.RegionHeld3
import Derived.Laws.Rows
import Derived.Lib.AppendStr
import Derived.ArgAppend
import Derived.Laws.IdiomCopy
import Derived.OrdersHeld
import Derived.Laws.BitsLemmas
import Derived.RowKit
import Derived.Lib.Hide
import Derived.WalkSpells
import Derived.StillTailTactics
import Derived.Deep.RegionHeld3
import Derived.Outline
import Derived.Test.YtelgefkfflgbeaaMat2
namespace Go.Proofs.Ytelgefkfflgbeaa.Mat
open Go Go.RowKit Go.Proofs.Ytelgefkfflgbeaa.Mem Go.Proofs.Ytelgefkfflgbeaa.Bits Go.Proofs.YtelgefkfflgbeaaW.PrintWords
set_option linter.unusedVariables false

theorem below_of_drewN {w w' : World} {n : Nat} (h : Below (w.drewN n).heap.size (w.drewN n) w') : Below w.heap.size w w' := ⟨h.os, h.tape, h.output, h.size, h.block⟩
/-- A row of a matrix whose elements are told one by one. -/
def rowOf (c : Nat) (xs : List Int) (i : Nat) : List Int := (xs.take ((i + 1) * c)).drop (i * c)
theorem rowOf_len {r c : Nat} {xs : List Int} (hl : xs.length = r * c) (i : Nat) (hi : i < r) : (rowOf c xs i).length = c := by
  have h : (i + 1) * c ≤ r * c := Nat.mul_le_mul_right c hi
  unfold rowOf
  rw [List.length_drop, List.length_take, hl, Nat.min_eq_left h, Nat.add_mul]
  omega
theorem info_u8' : ∃ i, Try.prog.info? 5 = some i ∧ i.size = 1 := by
  obtain ⟨i0, hi, hz⟩ := Option.map_eq_some_iff.1 info_u8
  simp only [Prod.mk.injEq] at hz
  exact ⟨i0, hi, hz.2.1⟩

/-- A cut of a row of bytes in the middle, not empty. -/
theorem mid_cut (s cap q : Nat) (xs : List Int) (lo hi : Nat) (hl : xs.length = q) (h1 : lo < hi) (h2 : hi ≤ q) (hc : q ≤ cap) :
    (∀ W : World, (Instr.slice 22 (.slice (some ⟨s, 0, none⟩) q cap) (some (.int .i64 (lo : Int))) (some (.int .i64 (hi : Int))) none).run Try.prog W = .ok (.slice (some ⟨s, lo, none⟩) (hi - lo) (cap - lo)) W) ∧
    ∀ w : World, ReadsInt w .u8 (some ⟨s, 0, none⟩) q xs → ReadsInt w .u8 (some ⟨s, lo, none⟩) ((xs.take hi).drop lo).length ((xs.take hi).drop lo) := by
  obtain ⟨i, hi', hsz⟩ := info_u8'
  subst hl
  have hlen : ((xs.take hi).drop lo).length = hi - lo := by rw [List.length_drop, List.length_take]; omega
  have ha : ∀ A : Option Addr, A = some ⟨s, 0, none⟩ → (if cap = lo then A else A.map (·.add lo)) = some ⟨s, lo, none⟩ := by
    rintro _ rfl
    rw [if_neg (by omega)]
    by_cases h0 : lo = 0
    · subst h0; rfl
    · simp [Addr.add, h0]
  constructor
  · intro W
    have hel : Try.prog.elem 22 = 5 := by simp [Program.elem, Try.underlying22]
    have hu : Try.prog.underlying 22 = some (.slice (Try.prog.elem 22)) := by rw [hel]; exact Try.underlying22
    rw [run_slice_lh W 22 (some ⟨s, 0, none⟩) xs.length cap hu .i64 .i64 lo hi (by omega) (by omega) (by omega), hel]
    have e : (if cap = lo then (some ⟨s, 0, none⟩ : Option Addr) else (some (⟨s, 0, none⟩ : Addr)).map (·.add lo)) = some ⟨s, lo, none⟩ := ha _ rfl
    simp [sizeOf, typeInfo, hi', hsz, sliced, Result.andThen] at e ⊢
    exact e
  · intro w h
    have h2' := (h.take_ hi (by omega)).drop_ (c := cap) lo (by omega) (by omega)
    rw [ha _ rfl] at h2'
    rw [hlen]
    exact h2'

set_option maxRecDepth 100000 in
theorem row_nil (i : Int) (w : World) :
    Calls Try.prog 19 #[.pointer none, .int .i64 i] w fun e w' => e = .returned (.slice none 0 0) ∧ ∃ n, w' = w.drewN n := by
  go_enter Try.func19, Try.ntmps19
  go_wp2_with (go_at_call 34; refine (is_nil _ _ _).mono ?_; rintro e w' ⟨rfl, n, rfl⟩)
  go_ret
  exact ⟨rfl, n, rfl⟩
set_option maxRecDepth 100000 in
theorem row_out (v : Value) (r c : Nat) (xs : List Int) (i : Int) (w : World) (h : IsMat w v r c xs) (hi : ¬ (0 ≤ i ∧ i < r)) :
    Calls Try.prog 19 #[v, .int .i64 i] w fun e w' => e = .returned (.slice none 0 0) ∧ ∃ n, w' = w.drewN n := by
  have ho : ¬ Within r c i 0 := fun h => hi ⟨h.1, h.2.2.1⟩
  clear hi
  go_enter Try.func19, Try.ntmps19
  go_wp2_with (go_at_call 34; refine (is_out _ _ _ _ _ _ _ h ho).mono ?_; rintro e w' ⟨rfl, n, rfl⟩)
  go_ret
  exact ⟨rfl, n, rfl⟩

set_option maxRecDepth 100000 in
theorem row_in (v : Value) (r c : Nat) (xs : List Int) (i : Nat) (w : World) (h : IsMat w v r c xs) (hi : i < r) :
    Calls Try.prog 19 #[v, .int .i64 i] w fun e w' => ∃ u, e = .returned u ∧ w'.ownsRow w.heap.size 5 1 u c (nums .u8 (rowOf c xs i)) ∧ Below w.heap.size w w' := by
  obtain ⟨b, s, cap, rfl, h⟩ := h
  have hM : IsMat w (.pointer (some ⟨b, 0, none⟩)) r c xs := ⟨b, s, cap, rfl, h⟩
  have ho : Within r c i 0 := ⟨by omega, by omega, by omega, by have := h.c0; omega⟩
  obtain ⟨h0, h1, h2⟩ := h.cells
  have hrc := h.rc
  have hlen := rowOf_len h.len i hi
  have hle : (i + 1) * c ≤ r * c := Nat.mul_le_mul_right c hi
  have hlt : i * c < (i + 1) * c := by rw [Nat.add_mul]; have := h.c0; omega
  obtain ⟨kc, hr⟩ := mid_cut s cap (r * c) xs (i * c) ((i + 1) * c) h.len hlt hle h.capLe
  have hR := hr w (by have := h.reads; rwa [h.len] at this)
  have e1 : IntKind.i64.wrap ((i : Int) * (c : Int)) = ((i * c : Nat) : Int) := by
    rw [← Int.natCast_mul]; exact IntWalk.i64_in _ (by omega)
  have e3 : IntKind.i64.wrap ((i : Int) + 1) = (i : Int) + 1 := IntWalk.i64_in _ (by have := h.r1; omega)
  have e2 : IntKind.i64.wrap (((i : Int) + 1) * (c : Int)) = (((i + 1) * c : Nat) : Int) := by
    rw [show ((i : Int) + 1) = ((i + 1 : Nat) : Int) by omega, ← Int.natCast_mul]; exact IntWalk.i64_in _ (by omega)
  have hd : (i + 1) * c - i * c = c := by rw [Nat.add_mul]; omega
  obtain ⟨q, hq⟩ : ∃ q, q = r * c := ⟨_, rfl⟩
  obtain ⟨p, hp⟩ : ∃ p, p = i * c := ⟨_, rfl⟩
  obtain ⟨p2, hp2⟩ : ∃ p, p = (i + 1) * c := ⟨_, rfl⟩
  change ReadsInt w .u8 _ (rowOf c xs i).length (rowOf c xs i) at hR
  obtain ⟨ys, hys⟩ : ∃ ys, ys = rowOf c xs i := ⟨_, rfl⟩
  rw [← hys] at hR hlen ⊢
  rw [← hq] at h2 hle hrc kc
  rw [← hp] at e1 hlt kc hd hR
  rw [← hp2] at e2 hlt hle kc hd
  rw [hd, ← hlen] at kc
  have HR := Lib.hid hR
  have HM := Lib.hid hM
  have HC := Lib.hid h.c1
  have HL := Lib.hid hlen
  clear hq hp hp2 h hM hr hd hys hR hlen
  go_enter Try.func19, Try.ntmps19
  go_wp2_with (go_at_call 34; refine (is_in _ _ _ _ _ _ _ HM.out ho).mono ?_; rintro e w' ⟨rfl, n, rfl⟩)
  clear ho HM
  refine wp_region_still_tail 18 (by kernel_rfl) (by kernel_rfl) ?_
  change wpStill _ _ (w.drewN (n + 1)) (fun a' => wpList _ _ _ _ a' (w.drewN (n + 1))) _ _
  simp only [List.take_succ_cons, List.take_zero, List.drop_succ_cons, List.drop_zero]
  repeat still_step
  refine wpStill_nil ?_
  go_wp2_with (go_at_call 35; refine (clone_any _ _ ys _ (ReadsInt.drewN HR.out _) (by rw [HL.out]; have := HC.out; omega)).mono ?_; rintro e w' ⟨u, rfl, hu, hB⟩; have HU := Lib.hid hu; have HB := Lib.hid hB; clear hu hB)
  go_ret
  exact ⟨_, rfl, by have := HU.out; rwa [HL.out] at this, below_of_drewN HB.out⟩

end Go.Proofs.Ytelgefkfflgbeaa.Mat
