/- The tables of powers and logarithms: what making them, and asking them, comes to. -/
import Derived.Test.YtpdigmgfpekocaaProg
import Derived.Below
import Derived.Deep.Draws
import Derived.Deep.AppendLies
import Derived.Maps.AppendAt
import Derived.OwnWalk
import Derived.Laws.BytesArg
import Derived.Laws.MakeOwn
import Derived.Laws.OwnMore
import Derived.Deep.OwnRows
import Derived.Tactics
import Derived.Lib.ConvBytes
import Derived.Laws.Slices
import Derived.WalkKit
import Derived.KernelRfl
import Derived.RowKit3
import Derived.Deep.LoopGhost
import Derived.Deep.QuietTactic
import Derived.BigQuiet
import Derived.WideLaws
import Derived.Deep.DeepCutAuto
import Derived.Deep.CutBlock
import Derived.Deep.RegionHeld3
import Derived.Laws.Rows
import Derived.Lib.AppendStr
import Derived.ArgAppend
import Derived.Laws.IdiomCopy
import Derived.OrdersHeld
import Derived.Laws.BitsLemmas
import Derived.RowKit
import Derived.Outline
import Derived.Lib.Hide
import Derived.Test.YtpdigmgfpekocaaPGfTablesx1
import Derived.Test.YtpdigmgfpekocaaMem
import Derived.Test.YtpdigmgfpekocaaGfLog
import Derived.Test.YtpdigmgfpekocaaBGfTablesGfRefPow
namespace Go.Proofs.Ytpdigmgfpekocaa.BGfTables
open Go Go.RowKit Go.Proofs.Ytpdigmgfpekocaa.Mem Go.Proofs.Ytpdigmgfpekocaa.Gf Go.Proofs.Ytpdigmgfpekocaa.Bits Go.Proofs.Ytpdigmgfpekocaa.PGfTables Go.Proofs.YtpdigmgfpekocaaW.PrintWords Go.Proofs.YtpdigmgfpekocaaW.PrintLast
set_option linter.unusedVariables false

def Zt : Array Value := Array.replicate 255 (.int .u8 0) ++ Array.replicate 256 (.int .i64 0)
theorem zero_t (w : World) : (zeroValue 43).run Try.prog w = .ok (.agg Zt) w := by kernel_rfl
theorem zt_size : Zt.size = 511 := by decide +kernel

/-- What the cells hold behind k rounds. -/
def Filled (k : Nat) (cs : Array Value) : Prop :=
  cs.size = 511 ∧ (∀ i, i < k → cs[i]? = some (.int .u8 (gp 2 i : Nat))) ∧ ∀ i, i < k → cs[255 + gp 2 i]? = some (.int .i64 (i : Nat))
theorem filled_step (k : Nat) (cs : Array Value) (h : Filled k cs) (hk : k < 255) :
    Filled (k + 1) ((cs.setIfInBounds k (.int .u8 (gp 2 k : Nat))).setIfInBounds (255 + gp 2 k) (.int .i64 (k : Nat))) := by
  obtain ⟨hs, h1, h2⟩ := h
  have hl := gp_lt 2 (by decide) k
  refine ⟨by simp [hs], fun i hi => ?_, fun i hi => ?_⟩
  · rw [Array.getElem?_setIfInBounds_ne (by omega)]
    by_cases e : k = i
    · subst e; rw [Array.getElem?_setIfInBounds_self_of_lt (by omega)]
    · rw [Array.getElem?_setIfInBounds_ne e]; exact h1 i (by omega)
  · by_cases e : i = k
    · subst e; rw [Array.getElem?_setIfInBounds_self_of_lt (by simp; omega)]
    · have hne : gp 2 i ≠ gp 2 k := fun h => e (two_inj i k (by omega) hk h)
      rw [Array.getElem?_setIfInBounds_ne (by omega), Array.getElem?_setIfInBounds_ne (by omega)]
      exact h2 i (by omega)

/-- A pointer to the tables, made. -/
def IsTab (w : World) (v : Value) : Prop := ∃ g cs, v = .pointer (some ⟨g, 0, none⟩) ∧ Blk w g 43 cs ∧ Filled 255 cs

set_option maxRecDepth 100000 in
theorem make_any (w : World) :
    Calls Try.prog 11 #[] w fun e w' => ∃ v, e = .returned v ∧ IsTab w' v ∧ Below w.heap.size w w' := by
  have hz := zero_t
  go_enter Try.func11, Try.ntmps11
  go_upto_region 3 with (fail)
  clear hz
  have hB := Blk.new w 43 Zt
  have hb : Below w.heap.size w (w.alloc (.cells Zt 43)) := (Below.refl _ _).alloc (Nat.le_refl _) _
  obtain ⟨w0, hw0⟩ : ∃ w0, w0 = w.alloc (.cells Zt 43) := ⟨_, rfl⟩
  rw [← hw0] at hB hb ⊢
  obtain ⟨g, hg⟩ : ∃ g, g = w.heap.size := ⟨_, rfl⟩
  have HG := Lib.hid (show w.heap.size ≤ g by omega)
  rw [← hg] at hB ⊢
  have HB := Lib.hid hB
  have Hb := Lib.hid hb
  clear hw0 hg hB hb
  go_wp2
  go_loopw [2, 6] (fun x i wr => ∃ (k : Nat) (cs : Array Value), k ≤ 255 ∧ i = .int .i64 k ∧ x = .int .u8 (gp 2 k : Nat) ∧ Blk wr g 43 cs ∧ Filled k cs ∧ Below w.heap.size w wr) (fun _ i _ => 255 - (intOf i).toNat)
  case atStart => exact ⟨0, Zt, by omega, rfl, rfl, HB.out, ⟨zt_size, fun i h => by omega, fun i h => by omega⟩, Hb.out⟩
  case round =>
    obtain ⟨k, cs, hk, rfl, rfl, hC, hF, hbw⟩ := hrel
    clear HB Hb
    by_cases hlt : k < 255
    · have hstep := filled_step k cs hF hlt
      have hl := gp_lt 2 (by decide) k
      have hsz := hF.1
      have hmul : gf_Mul.f 9 ((gp 2 k : Nat) : Int) 2 = some ((gp 2 (k + 1) : Nat) : Int) := gf_mul 9 (gp 2 k) 2 hl (by omega) (by omega)
      obtain ⟨y', hy'⟩ : ∃ y', y' = gp 2 (k + 1) := ⟨_, rfl⟩
      rw [← hy'] at hmul
      obtain ⟨y, hy⟩ : ∃ y, y = gp 2 k := ⟨_, rfl⟩
      rw [← hy] at hstep hl hmul ⊢
      have h1 := hC.cell k
      have f1 := hC.frozen k
      have hs1 : k < cs.size := by omega
      rw [Array.getElem?_eq_getElem hs1] at h1
      have hS := hC.set_ k (.int .u8 (y : Nat))
      have h2 := hS.cell (255 + y)
      have f2 := hS.frozen (255 + y)
      have hs2 : 255 + y < (cs.setIfInBounds k (.int .u8 (y : Nat))).size := by rw [Array.size_setIfInBounds]; omega
      rw [Array.getElem?_eq_getElem hs2] at h2
      obtain ⟨u, hu⟩ : ∃ u, u = (cs.setIfInBounds k (.int .u8 (y : Nat)))[255 + y] := ⟨_, rfl⟩
      rw [← hu] at h2
      obtain ⟨u1, hu1⟩ : ∃ u, u = cs[k] := ⟨_, rfl⟩
      rw [← hu1] at h1
      have HS := Lib.hid (hS.set_ (255 + y) (.int .i64 (k : Nat)))
      have hbw' : Below w.heap.size w ((wr.setCell ⟨g, k, none⟩ (.int .u8 (y : Nat))).setCell ⟨g, 255 + y, none⟩ (.int .i64 (k : Nat))) := (hbw.setCell HG.out _).setCell HG.out _
      have HW := Lib.hid hbw'
      have HF := Lib.hid hstep
      have HM := Lib.hid hmul
      have HY := Lib.hid hy'
      clear hS hC hu hu1 hs1 hs2 hbw hbw' hstep hmul hF hsz hy hy'
      go_wp2_with (go_at_call 8; refine (gf_Mul.calls 9 _ _ _ _ HM.out).mono ?_; rintro e w' ⟨rfl, n, rfl⟩)
      go_roundw
      case rel => exact ⟨k + 1, _, by omega, by go_num, by rw [HY.out], HS.out, HF.out, pw_below_drewN HW.out n⟩
      case measure => simp [intOf]; omega
    · obtain rfl : k = 255 := by omega
      have HC := Lib.hid hC
      have HF := Lib.hid hF
      have HW := Lib.hid hbw
      clear hC hF hbw hlt hk
      go_wp2
      go_ret
      exact ⟨_, rfl, ⟨g, cs, rfl, HC.out, HF.out⟩, HW.out⟩

theorem tab_drewN {w : World} {v : Value} (h : IsTab w v) (n : Nat) : IsTab (w.drewN n) v := h
theorem tab_exp {w : World} {v : Value} (h : IsTab w v) : ∃ g, v = .pointer (some ⟨g, 0, none⟩) ∧ ∀ i, i < 255 → w.cell? ⟨g, i, none⟩ = some (.int .u8 (gp 2 i : Nat)) := by
  obtain ⟨g, cs, rfl, hC, _, h1, _⟩ := h
  exact ⟨g, rfl, fun i hi => (hC.cell i).trans (h1 i hi)⟩
theorem tab_log {w : World} {v : Value} (h : IsTab w v) : ∃ g, v = .pointer (some ⟨g, 0, none⟩) ∧ ∀ a, a < 256 → a ≠ 0 → w.cell? ⟨g, 255 + a, none⟩ = some (.int .i64 (lg a : Nat)) := by
  obtain ⟨g, cs, rfl, hC, _, _, h2⟩ := h
  refine ⟨g, rfl, fun a ha h0 => ?_⟩
  have := h2 (lg a) (lg_lt a ha h0)
  rw [gp_lg a ha h0] at this
  exact (hC.cell _).trans this

def At255 (n : Int) : Nat := ((Int.tmod n 255 + 255) % 255).toNat
theorem at255_lt (n : Int) : At255 n < 255 := by unfold At255; omega
theorem at255_go (n : Int) : Int.tmod (wrap64 (Int.tmod n 255 + 255)) 255 = (At255 n : Int) := by
  have h1 : -255 < Int.tmod n 255 := by have := Int.lt_tmod_of_pos n (b := 255) (by omega); omega
  have h2 : Int.tmod n 255 < 255 := Int.tmod_lt_of_pos n (by omega)
  rw [wrap64_in _ (by omega) (by omega), Int.tmod_eq_emod_of_nonneg (by omega)]
  unfold At255; omega

set_option maxRecDepth 100000 in
theorem exp_any (v : Value) (n : Int) (w : World) (h : IsTab w v) :
    Calls Try.prog 12 #[v, .int .i64 n] w fun e w' => e = .returned (.int .u8 (gp 2 (At255 n) : Nat)) ∧ Drawn0 w w' := by
  obtain ⟨g, rfl, hc⟩ := tab_exp h
  have hlt := at255_lt n
  have hc1 := hc _ hlt
  have e1 := at255_go n
  obtain ⟨k, hk⟩ : ∃ k, k = At255 n := ⟨_, rfl⟩
  rw [← hk] at hc1 hlt e1 ⊢
  obtain ⟨y, hy⟩ : ∃ y, y = gp 2 k := ⟨_, rfl⟩
  rw [← hy] at hc1 ⊢
  clear hc h hk hy
  go_enter Try.func12, Try.ntmps12
  go_wp2
  go_ret
  exact ⟨rfl, 0, rfl⟩
set_option maxRecDepth 100000 in
theorem exp_nil (n : Int) (w : World) :
    Calls Try.prog 12 #[.pointer none, .int .i64 n] w fun e w' => e = .returned (.int .u8 0) ∧ Drawn0 w w' := by
  go_enter Try.func12, Try.ntmps12
  go_wp2
  go_ret
  exact ⟨rfl, 0, rfl⟩

def Log1 (a : Nat) : Int := if a = 0 then -1 else (lg a : Nat)
set_option maxRecDepth 100000 in
theorem log_nil (a : Int) (w : World) :
    Calls Try.prog 14 #[.pointer none, .int .u8 a] w fun e w' => e = .returned (.int .i64 (-1)) ∧ Drawn0 w w' := by
  go_enter Try.func14, Try.ntmps14
  go_wp2
  go_ret
  exact ⟨rfl, 0, rfl⟩
set_option maxRecDepth 100000 in
theorem log_any (v : Value) (a : Nat) (w : World) (h : IsTab w v) (ha : a < 256) :
    Calls Try.prog 14 #[v, .int .u8 a] w fun e w' => e = .returned (.int .i64 (Log1 a)) ∧ Drawn0 w w' := by
  obtain ⟨g, rfl, hc⟩ := tab_log h
  by_cases h0 : a = 0
  · subst h0
    clear hc h
    go_enter Try.func14, Try.ntmps14
    go_wp2
    go_ret
    exact ⟨rfl, 0, rfl⟩
  · have hc1 := hc a ha h0
    have e1 : Log1 a = (lg a : Nat) := by unfold Log1; rw [if_neg h0]
    rw [e1]
    obtain ⟨y, hy⟩ : ∃ y, y = lg a := ⟨_, rfl⟩
    rw [← hy] at hc1 ⊢
    have h0b : ((a : Int) == 0) = false := by simp; omega
    clear hc h e1 hy h0
    go_enter Try.func14, Try.ntmps14
    go_wp2
    go_ret
    exact ⟨rfl, 0, rfl⟩

set_option maxRecDepth 100000 in
theorem mul_nil (a b : Int) (w : World) :
    Calls Try.prog 16 #[.pointer none, .int .u8 a, .int .u8 b] w fun e w' => e = .returned (.int .u8 0) ∧ Drawn0 w w' := by
  go_enter Try.func16, Try.ntmps16
  go_wp2
  go_ret
  exact ⟨rfl, 0, rfl⟩
theorem at255_add (m n : Nat) : At255 ((m : Int) + (n : Int)) = (m + n) % 255 := by
  unfold At255
  rw [Int.tmod_eq_emod_of_nonneg (by omega)]; omega
set_option maxRecDepth 100000 in
theorem mul_any (v : Value) (a b : Nat) (w : World) (h : IsTab w v) (ha : a < 256) (hb : b < 256) :
    Calls Try.prog 16 #[v, .int .u8 a, .int .u8 b] w fun e w' => e = .returned (.int .u8 (gm a b : Nat)) ∧ Drawn0 w w' := by
  by_cases h0 : a = 0
  · subst h0
    rw [gm_zero_left]
    obtain ⟨g, rfl, hc⟩ := tab_log h
    clear hc h
    go_enter Try.func16, Try.ntmps16
    go_wp2
    go_ret
    exact ⟨rfl, 0, rfl⟩
  have h0b : ((a : Int) == 0) = false := by simp; omega
  by_cases h1 : b = 0
  · subst h1
    rw [gm_zero_right]
    obtain ⟨g, rfl, hc⟩ := tab_log h
    clear hc h h0
    go_enter Try.func16, Try.ntmps16
    go_wp2
    go_ret
    exact ⟨rfl, 0, rfl⟩
  have h1b : ((b : Int) == 0) = false := by simp; omega
  have e : gp 2 (At255 (((lg a : Nat) : Int) + ((lg b : Nat) : Int))) = gm a b := by
    rw [at255_add, gp_mod255, gp_add 2 (by decide), gp_lg a ha h0, gp_lg b hb h1]
  have la := lg_lt a ha h0
  have lb := lg_lt b hb h1
  have hT := Lib.hid h
  obtain ⟨g, rfl, hc⟩ := tab_log h
  have c1 := hc a ha h0
  have c2 := hc b hb h1
  obtain ⟨x, hx⟩ : ∃ x, x = lg a := ⟨_, rfl⟩
  obtain ⟨y, hy⟩ : ∃ y, y = lg b := ⟨_, rfl⟩
  rw [← hx] at c1 la e
  rw [← hy] at c2 lb e
  have hE := Lib.hid e
  have e1 : IntKind.i64.wrap ((x : Int) + (y : Int)) = (x : Int) + (y : Int) := IntWalk.i64_in _ (by omega)
  have a0 : (0 : Int) ≤ (a : Int) := by omega
  have a1 : (a : Int) < 256 := by omega
  have b0 : (0 : Int) ≤ (b : Int) := by omega
  have b1 : (b : Int) < 256 := by omega
  clear hc h hx hy e h0 h1
  go_enter Try.func16, Try.ntmps16
  go_wp2
  go_quiet ((go_at_call 12; (refine (exp_any _ _ _ (tab_drewN hT.out _)).mono ?_); rintro e w' ⟨rfl, ⟨n, rfl⟩⟩; (first | exact ⟨rfl, _, World.drewN_drewN _ _ _⟩ | exact ⟨rfl, _, Eq.trans (World.drewN_drewN _ _ _) (congrArg (World.drewN _) (Nat.add_assoc _ _ _))⟩ | exact ⟨rfl, _, rfl⟩)))
  go_wp2
  go_ret
  exact ⟨by first | rfl | (rw [hE.out]; rfl), _, rfl⟩

theorem ref_log_loop (d : Nat) : ∀ (k a n : Nat), a < 256 → a ≠ 0 → n + d = lg a → 80 + d ≤ k → coldframeref02_Log.l0 k a (gp 2 n : Nat) n = some ((lg a : Nat) : Int) := by
  induction d with
  | zero =>
    intro k a n ha h0 hd hk
    obtain ⟨k, rfl⟩ : ∃ m, k = m + 1 := ⟨k - 1, by omega⟩
    have hl := lg_lt a ha h0
    simp only [coldframeref02_Log.l0]
    rw [if_pos (by omega), show n = lg a by omega, gp_lg a ha h0, if_pos rfl]
  | succ d ih =>
    intro k a n ha h0 hd hk
    obtain ⟨k, rfl⟩ : ∃ m, k = m + 1 := ⟨k - 1, by omega⟩
    have hl := lg_lt a ha h0
    have hne : gp 2 n ≠ a := fun e => by
      have := lg_gp n (by omega)
      rw [e] at this; omega
    simp only [coldframeref02_Log.l0]
    rw [if_pos (by omega), if_neg (by omega), show (2 : Int) = ((2 : Nat) : Int) from rfl, ref_mul k _ 2 (gp_lt 2 (by decide) n) (by decide) (by omega)]
    simp only [bnd]
    rw [show wrap64 ((n : Int) + 1) = ((n + 1 : Nat) : Int) by rw [wrap64_in _ (by omega) (by omega)]; omega]
    exact ih k a (n + 1) ha h0 (by omega) (by omega)
theorem ref_log_zero (d : Nat) : ∀ (k n : Nat), n + d = 255 → 80 + d ≤ k → coldframeref02_Log.l0 k 0 (gp 2 n : Nat) n = some (-1) := by
  induction d with
  | zero =>
    intro k n hd hk
    obtain ⟨k, rfl⟩ : ∃ m, k = m + 1 := ⟨k - 1, by omega⟩
    simp only [coldframeref02_Log.l0]
    rw [if_neg (by omega)]
  | succ d ih =>
    intro k n hd hk
    obtain ⟨k, rfl⟩ : ∃ m, k = m + 1 := ⟨k - 1, by omega⟩
    have hne := two_ne n
    simp only [coldframeref02_Log.l0]
    rw [if_pos (by omega), if_neg (by omega), show (2 : Int) = ((2 : Nat) : Int) from rfl, ref_mul k _ 2 (gp_lt 2 (by decide) n) (by decide) (by omega)]
    simp only [bnd]
    rw [show wrap64 ((n : Int) + 1) = ((n + 1 : Nat) : Int) by rw [wrap64_in _ (by omega) (by omega)]; omega]
    exact ih k (n + 1) (by omega) (by omega)
theorem ref_log (k a : Nat) (ha : a < 256) (hk : 400 ≤ k) : coldframeref02_Log.f k a = some (Log1 a) := by
  unfold coldframeref02_Log.f Log1
  by_cases h0 : a = 0
  · subst h0
    rw [if_pos rfl]
    exact ref_log_zero 255 k 0 (by omega) (by omega)
  · rw [if_neg h0]
    have := lg_lt a ha h0
    exact ref_log_loop (lg a) k a 0 ha h0 (by omega) (by omega)
theorem awake_is (k : Nat) (hk : 9 ≤ k) : coldframelaw02_awake.f k = some true := by
  unfold coldframelaw02_awake.f
  rw [show (2 : Int) = ((2 : Nat) : Int) from rfl, show (128 : Int) = ((128 : Nat) : Int) from rfl, gf_mul k 2 128 (by decide) (by decide) hk]
  simp only [bnd]
  decide +kernel

set_option maxRecDepth 100000 in
theorem law_walk (a b : Nat) (n : Int) (w : World) (ha : a < 256) (hb : b < 256) :
    Calls Try.prog 5 #[.int .u8 a, .int .u8 b, .int .i64 n] w fun e w' => e = .returned (.bool true) ∧ Below w.heap.size w w' := by
  have r1 : coldframeref02_Pow.f 1000 2 (At255 n : Nat) = some ((gp 2 (At255 n) : Nat) : Int) := ref_pow 1000 2 (At255 n) (by decide) (by have := at255_lt n; omega) (by have := at255_lt n; omega)
  have r2 := ref_log 1000 a ha (by omega)
  have r3 := ref_mul 1000 a b ha hb (by omega)
  have r4 := awake_is 1000 (by omega)
  have R1 := Lib.hid r1
  have R2 := Lib.hid r2
  have R3 := Lib.hid r3
  have R4 := Lib.hid r4
  have e1 := at255_go n
  clear r1 r2 r3 r4
  go_enter Try.func5, Try.ntmps5
  go_wp2_with (first
    | (go_at_call 11; refine (make_any _).mono ?_; rintro e w1 ⟨v, rfl, hT, hB⟩; have HT := Lib.hid hT; have HB := Lib.hid hB; have HN := Lib.hid (fun n => tab_drewN hT n); clear hT hB; obtain ⟨g, hg⟩ : ∃ g, v = .pointer (some ⟨g, 0, none⟩) := (by obtain ⟨g, _, h, _⟩ := HT.out; exact ⟨g, h⟩); subst hg)
    | (go_at_call 12; (first | (with_reducible refine (exp_nil _ _).mono ?_) | (with_reducible refine (exp_any _ _ _ HT.out).mono ?_) | (with_reducible refine (exp_any _ _ _ (HN.out _)).mono ?_)); rintro e w' ⟨rfl, n, rfl⟩)
    | (go_at_call 14; (first | (with_reducible refine (log_nil _ _).mono ?_) | (with_reducible refine (log_any _ _ _ HT.out ha).mono ?_) | (with_reducible refine (log_any _ _ _ (HN.out _) ha).mono ?_)); rintro e w' ⟨rfl, n, rfl⟩)
    | (go_at_call 16; (first | (with_reducible refine (mul_nil _ _ _).mono ?_) | (with_reducible refine (mul_any _ _ _ _ HT.out ha hb).mono ?_) | (with_reducible refine (mul_any _ _ _ _ (HN.out _) ha hb).mono ?_)); rintro e w' ⟨rfl, n, rfl⟩)
    | (go_at_call 13; (with_reducible refine (coldframeref02_Pow.calls 1000 _ _ _ _ R1.out).mono ?_); rintro e w' ⟨rfl, n, rfl⟩)
    | (go_at_call 15; (with_reducible refine (coldframeref02_Log.calls 1000 _ _ _ R2.out).mono ?_); rintro e w' ⟨rfl, n, rfl⟩)
    | (go_at_call 9; (with_reducible refine (coldframeref02_Mul.calls 1000 _ _ _ _ R3.out).mono ?_); rintro e w' ⟨rfl, n, rfl⟩)
    | (go_at_call 10; (with_reducible refine (coldframelaw02_awake.calls 1000 _ _ R4.out).mono ?_); rintro e w' ⟨rfl, n, rfl⟩))
  go_ret
  exact ⟨rfl, by repeat (first | exact HB.out | apply pw_below_drewN)⟩
end Go.Proofs.Ytpdigmgfpekocaa.BGfTables
