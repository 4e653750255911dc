/- The statement HealBack: what its proof rests on, part 2 of 4. -/
import Derived.Test.YtcnfafappcbpnaaProg
import Derived.Below
import Derived.Deep.Draws
import Derived.Deep.AppendLies
import Derived.Maps.AppendAt
import Derived.OwnWalk
import Derived.Laws.BytesArg
import Derived.Laws.MakeOwn
import Derived.Laws.OwnMore
import Derived.Deep.OwnRows
import Derived.Tactics
import Derived.Lib.ConvBytes
import Derived.Laws.Slices
import Derived.WalkKit
import Derived.KernelRfl
import Derived.RowKit3
import Derived.Deep.LoopGhost
import Derived.Deep.QuietTactic
import Derived.BigQuiet
import Derived.WideLaws
import Derived.Deep.DeepCutAuto
import Derived.Deep.CutBlock
import Derived.Deep.RegionHeld3
import Derived.Laws.Rows
import Derived.Lib.AppendStr
import Derived.ArgAppend
import Derived.Laws.IdiomCopy
import Derived.OrdersHeld
import Derived.Laws.BitsLemmas
import Derived.RowKit
import Derived.Lib.Hide
import Derived.WalkSpells
import Derived.StillTailTactics
import Derived.Outline
import Derived.Test.YtcnfafappcbpnaaPHealFragmentsx2
import Derived.Test.YtcnfafappcbpnaaZHealBacka
namespace Go.Proofs.Ytcnfafappcbpnaa.Sol
open Go Go.RowKit Go.Proofs.Ytcnfafappcbpnaa.Gi Go.Proofs.Ytcnfafappcbpnaa.Gf Go.Proofs.Ytcnfafappcbpnaa.Mem Go.Proofs.Ytcnfafappcbpnaa.Bits Go.Proofs.Ytcnfafappcbpnaa.Rws Go.Proofs.YtcnfafappcbpnaaW.PrintWords
set_option linter.unusedVariables false
def clrTo (C : Mtx) (t col : Nat) (r : Int) (i : Nat) : Mtx := fun p j => if p = t then gmI (C t j) r else if p < i then xorI (C p j) (gmI (gmI (C t j) r) (C p col)) else C p j
theorem gm0 (a : Int) : gmI a 0 = 0 := by unfold gmI; simp [gm_zero_right]
theorem xor0 {a : Int} (h : Byt a) : xorI a 0 = a := by unfold xorI; have := h.1; simp; omega
theorem clrTo_skip {C : Mtx} (hC : BytM C) (t col : Nat) (r : Int) (i : Nat) (h : i = t ∨ C i col = 0) (p j : Nat) : clrTo C t col r i p j = clrTo C t col r (i + 1) p j := by
  unfold clrTo
  by_cases e : p = t
  · rw [if_pos e, if_pos e]
  · rw [if_neg e, if_neg e]
    by_cases e1 : p < i
    · rw [if_pos e1, if_pos (by omega)]
    · rw [if_neg e1]
      by_cases e2 : p = i
      · subst e2
        rcases h with h | h
        · exact absurd h e
        · rw [if_pos (by omega), h, gm0, xor0 (hC _ _)]
      · rw [if_neg (by omega)]
theorem clrTo_at (C : Mtx) (t col : Nat) (r : Int) (i j : Nat) (h : i ≠ t) : clrTo C t col r i i j = C i j := by unfold clrTo; rw [if_neg h, if_neg (Nat.lt_irrefl i)]
theorem clrTo_t (C : Mtx) (t col : Nat) (r : Int) (i j : Nat) : clrTo C t col r i t j = gmI (C t j) r := by unfold clrTo; rw [if_pos rfl]
theorem clrTo_next (C : Mtx) (t col : Nat) (r : Int) (i p j : Nat) (h : i ≠ t) : (if p = i then xorI (C i j) (gmI (gmI (C t j) r) (C i col)) else clrTo C t col r i p j) = clrTo C t col r (i + 1) p j := by
  unfold clrTo
  by_cases e : p = i
  · subst e
    rw [if_pos rfl, if_neg h, if_pos (by omega)]
  · rw [if_neg e]
    by_cases e1 : p = t
    · rw [if_pos e1, if_pos e1]
    · rw [if_neg e1, if_neg e1]
      by_cases e2 : p < i
      · rw [if_pos e2, if_pos (by omega)]
      · rw [if_neg e2, if_neg (by omega)]
theorem Work.drewN {w : World} {lo mid top p n m q : Nat} {va vb : Value} {Ra Rb : Nat → Value} {C : Mtx} (h : Work w lo mid top p va vb n m q Ra Rb C) (k : Nat) : Work (w.drewN k) lo mid top p va vb n m q Ra Rb C :=
  ⟨h.blk.drewN k, h.ga.drewN k, h.gb.drewN k, h.l1, h.l2, h.l3⟩
set_option maxRecDepth 100000 in
set_option maxHeartbeats 4000000 in
theorem clear_any (lo mid top p n m q t col : Nat) (va vb : Value) (Ra Rb : Nat → Value) (C : Mtx) (w : World) (h : Work w lo mid top p va vb n m q Ra Rb C) (hC : BytM C) (hn : n ≤ 1000) (ht : t < n) (hc : col < m) (hm : m ≤ 1000) (hq1 : 1 ≤ q) (hq : q ≤ 1000) (hz : C t col ≠ 0) :
    ∃ r, Byt r ∧ gmI (C t col) r = 1 ∧ Calls Try.prog 78 #[.pointer (some ⟨p, 0, none⟩), .int .i64 t, .int .i64 col] w fun e w' => e = .returned (.tuple #[]) ∧ Work w' lo mid top p va vb n m q Ra Rb (clrTo C t col r n) ∧ Insd lo top w w' := by
  obtain ⟨r, hr, hr1, IV⟩ := inv_still (C t col) w (hC t col) hz
  refine ⟨r, hr, hr1, ?_⟩
  have HIV := Lib.hid IV
  have HR := Lib.hid hr
  have HC := Lib.hid hC
  obtain ⟨g, cg, rfl, _, hgl, hgh, _⟩ := h.ga.form (by omega)
  obtain ⟨g', cg', rfl, _, hgl', hgh', _⟩ := h.gb.form (by omega)
  obtain ⟨hva, hvb⟩ := h.cells
  obtain ⟨b1, c1, e1, _, l1, l2, _⟩ := h.ga.rform (by omega) t ht
  obtain ⟨b2, c2, e2, _, l3, l4, _⟩ := h.gb.rform (by omega) t ht
  have z1 := (h.ga.head t ht).1
  rw [e1] at z1
  have z2 := (h.ga.elem t ht e1 col hc).1
  have hrow := h.ga.row t ht
  rw [e1] at hrow
  have SC := Lib.hid (scale_any lo b1 c1 m (C t) r w hrow (hC t) hr (by omega))
  have g0 : (0 : Int) ≤ (t : Int) := by omega
  have g1 : (t : Int) < (n : Int) := by omega
  have g2 : (0 : Int) ≤ (col : Int) := by omega
  have g3 : (col : Int) < (m : Int) := by omega
  have H := Lib.hid h
  have E1 := Lib.hid e1
  have E2 := Lib.hid e2
  obtain ⟨y, hy⟩ : ∃ y, y = C t col := ⟨_, rfl⟩
  rw [← hy] at z2 HIV
  clear h hC hr hr1 IV hz hrow e1 e2 hy
  go_enter Try.func78, Try.ntmps78
  go_upto_region 2 with (first
    | (go_at_call 79; (with_reducible refine (HIV.out _).mono ?_); rintro e w' ⟨rfl, hw⟩; obtain rfl := hw.symm)
    | (go_at_call 82; (with_reducible refine SC.out.mono ?_); rintro e w1 ⟨rfl, hr1, hg1⟩; have HR1 := Lib.hid hr1; have HG1 := Lib.hid hg1; clear hr1 hg1))
  have hr1 := HR1.out
  rw [← E1.out] at hr1
  have hw1 := H.out.putA t ht E1.out l1 l2 HG1.out _ hr1
  have HI1 := Lib.hid (Insd.grown HG1.out l1 (show b1 < top by have := H.out.l2; omega))
  clear hr1 hva hvb z1 z2 SC HIV
  obtain ⟨hva, hvb⟩ := hw1.cells
  have z1 := (hw1.gb.head t ht).1
  rw [E2.out] at z1
  have hrow := hw1.gb.row t ht
  rw [E2.out] at hrow
  rw [line_congr q _ (fun j => C t (m + j)) (fun j _ => by show (if t = t then (if m + j < m then _ else C t (m + j)) else _) = _; rw [if_pos rfl, if_neg (by omega)])] at hrow
  have SC := Lib.hid (scale_any mid b2 c2 q (fun j => C t (m + j)) r w1 hrow (fun j => HC.out t (m + j)) HR.out (by omega))
  have HW1 := Lib.hid hw1
  clear hw1 hrow
  go_upto_region 3 with (go_at_call 82; (with_reducible refine SC.out.mono ?_); rintro e w2 ⟨rfl, hr1, hg1⟩; have HR2 := Lib.hid hr1; have HG2 := Lib.hid hg1; clear hr1 hg1)
  have hr2 := HR2.out
  rw [← E2.out] at hr2
  have hw2 := HW1.out.putB t ht E2.out l3 l4 HG2.out _ hr2
  have HW2 := Lib.hid (show Work w2 lo mid top p _ _ n m q Ra Rb (clrTo C t col r 0) from hw2.congr (fun i hi j hj => by
    unfold clrTo
    by_cases e : i = t
    · subst e
      rw [if_pos rfl, if_pos rfl]
      by_cases ej : j < m
      · rw [if_pos ej, if_pos rfl, if_pos ej]
      · rw [if_neg ej, show m + (j - m) = j by omega, if_pos rfl]
    · rw [if_neg e, if_neg e, if_neg e, if_neg (Nat.not_lt_zero i)]))
  have HI2 := Lib.hid (HI1.out.trans (Insd.grown HG2.out (show lo ≤ b2 by have := H.out.l1; omega) l4))
  clear hr2 hw2 hva hvb z1 SC HW1 HI1 HR1 HR2 HG1 HG2
  have hva := HW2.out.cells.1
  go_upto_region 4 with (fail)
  clear hva
  go_loopw [8, 9, 47] (fun _ _ iv wr => ∃ (i : Nat), i ≤ n ∧ iv = .int .i64 i ∧ Hid (Work wr lo mid top p (.slice (some ⟨g, 0, none⟩) n cg) (.slice (some ⟨g', 0, none⟩) n cg') n m q Ra Rb (clrTo C t col r i)) ∧ Hid (Insd lo top w wr)) (fun _ _ iv _ => n - (intOf iv).toNat)
  case atStart => exact ⟨0, by omega, rfl, HW2, HI2⟩
  case round =>
    clear HW2 HI2
    obtain ⟨i, hi, rfl, HW, HI⟩ := hrel
    by_cases hlt : i < n
    · have hva := HW.out.cells.1
      obtain ⟨b3, c3, e3, _, l5, l6, _⟩ := HW.out.ga.rform (by omega) i hlt
      have z3 := (HW.out.ga.head i hlt).1
      rw [e3] at z3
      have z4 := (HW.out.ga.elem i hlt e3 col hc).1
      have E3 := Lib.hid e3
      have g4 : (0 : Int) ≤ (i : Int) := by omega
      have g5 : (i : Int) < (n : Int) := by omega
      clear e3
      by_cases hit : i = t
      · have t1 : ((i : Int) != (t : Int)) = false := by simp; omega
        have HT := Lib.hid hit
        obtain ⟨f, hf⟩ : ∃ f, f = clrTo C t col r i i col := ⟨_, rfl⟩
        rw [← hf] at z4
        clear hit hf
        go_wp2
        go_roundw
        case rel => exact ⟨i + 1, by omega, by go_num, Lib.hid (HW.out.congr (fun p' _ j _ => clrTo_skip HC.out t col r i (.inl HT.out) p' j)), HI⟩
        case measure => simp [intOf]; omega
      · have t1 : ((i : Int) != (t : Int)) = true := by simp; omega
        have HT := Lib.hid hit
        rw [clrTo_at C t col r i col hit] at z4
        clear hit
        by_cases hz : C i col = 0
        · rw [hz] at z4
          have HZ := Lib.hid hz
          clear hz
          go_wp2
          go_roundw
          case rel => exact ⟨i + 1, by omega, by go_num, Lib.hid (HW.out.congr (fun p' _ j _ => clrTo_skip HC.out t col r i (.inr HZ.out) p' j)), HI⟩
          case measure => simp [intOf]; omega
        · have t2 : (C i col != 0) = true := by simp [hz]
          have z5 := (HW.out.ga.head t ht).1
          rw [E1.out] at z5
          have hri := (HW.out.drewN 1).ga.row i hlt
          have hrt := (HW.out.drewN 1).ga.row t ht
          rw [E3.out, line_congr m _ (C i) (fun j _ => clrTo_at C t col r i j HT.out)] at hri
          rw [E1.out, line_congr m _ (fun j => gmI (C t j) r) (fun j _ => clrTo_t C t col r i j)] at hrt
          have HNE := Lib.hid (show b1 ≠ b3 from fun e => HW.out.ga.apart t i ht hlt (fun e => HT.out e.symm) b1 (by rw [E1.out]; rfl) (by rw [E3.out, e]; rfl))
          have SA := Lib.hid (sadd_any lo b3 c3 b1 c1 m (C i) (fun j => gmI (C t j) r) (C i col) (wr.drewN 1) hri hrt HNE.out (HC.out i) (fun j => gmI_byt (HC.out t j)) (HC.out i col) (by omega))
          obtain ⟨rl, hrl⟩ : ∃ rl, rl = line m (fun j => xorI (C i j) (gmI (gmI (C t j) r) (C i col))) := ⟨_, rfl⟩
          rw [← hrl] at SA
          have HRL := Lib.hid hrl
          obtain ⟨f, hf⟩ : ∃ f, f = C i col := ⟨_, rfl⟩
          rw [← hf] at z4 t2 SA
          have HF := Lib.hid hf
          clear hz hri hrt hrl hf
          go_upto_region 8 with (fail)
          refine wp_region_still_tail 15 (by kernel_rfl) (by kernel_rfl) ?_
          change wpStill _ _ (wr.drewN 1) (fun a' => wpList _ _ _ _ a' (wr.drewN 1)) _ _
          simp only [List.take_succ_cons, List.take_zero, List.drop_succ_cons, List.drop_zero]
          iterate 15 still_step
          refine wpStill_nil ?_
          go_upto_region 9 with (go_at_call 83; (with_reducible refine SA.out.mono ?_); rintro e w3 ⟨rfl, hr1, hg1⟩; have HR3 := Lib.hid hr1; have HG3 := Lib.hid hg1; clear hr1 hg1)
          have hr3 := HR3.out
          rw [← E3.out, HRL.out] at hr3
          have hw3 := (HW.out.drewN 1).putA i hlt E3.out l5 l6 HG3.out _ hr3
          have HI3 := Lib.hid ((HI.out.trans (Insd.drewN wr 1)).trans (Insd.grown HG3.out l5 (show b3 < top by have := HW.out.l2; omega)))
          clear hr3 hva z3 z4 z5 SA
          obtain ⟨_, hvb⟩ := hw3.cells
          obtain ⟨b4, c4, e4, _, l7, l8, _⟩ := hw3.gb.rform (by omega) i hlt
          have z6 := (hw3.gb.head i hlt).1
          have z7 := (hw3.gb.head t ht).1
          have hri := (hw3.drewN 1).gb.row i hlt
          have hrt := (hw3.drewN 1).gb.row t ht
          have HN4 := Lib.hid (show b2 ≠ b4 from fun e => hw3.gb.apart t i ht hlt (fun e => HT.out e.symm) b2 (by rw [E2.out]; rfl) (by rw [e4, e]; rfl))
          rw [e4] at z6 hri
          rw [E2.out] at z7 hrt
          rw [line_congr q _ (fun j => C i (m + j)) (fun j _ => by show (if i = i then (if m + j < m then _ else _) else _) = _; rw [if_pos rfl, if_neg (by omega), clrTo_at C t col r i (m + j) HT.out])] at hri
          rw [line_congr q _ (fun j => gmI (C t (m + j)) r) (fun j _ => by show (if t = i then _ else _) = _; rw [if_neg (fun e => HT.out e.symm), clrTo_t C t col r i (m + j)])] at hrt
          have SA := Lib.hid (sadd_any mid b4 c4 b2 c2 q (fun j => C i (m + j)) (fun j => gmI (C t (m + j)) r) f (w3.drewN 1) hri hrt HN4.out (fun j => HC.out i (m + j)) (fun j => gmI_byt (HC.out t (m + j))) (by rw [HF.out]; exact HC.out i col) (by omega))
          obtain ⟨rl2, hrl2⟩ : ∃ rl, rl = line q (fun j => xorI (C i (m + j)) (gmI (gmI (C t (m + j)) r) f)) := ⟨_, rfl⟩
          rw [← hrl2] at SA
          have HRL2 := Lib.hid hrl2
          have HW3 := Lib.hid hw3
          have E4 := Lib.hid e4
          clear hw3 e4 hri hrt hrl2
          refine wp_region_still_tail 15 (by kernel_rfl) (by kernel_rfl) ?_
          change wpStill _ _ (w3.drewN 1) (fun a' => wpList _ _ _ _ a' (w3.drewN 1)) _ _
          simp only [List.take_succ_cons, List.take_zero, List.drop_succ_cons, List.drop_zero]
          iterate 15 still_step
          refine wpStill_nil ?_
          go_wp2_with (go_at_call 83; (with_reducible refine SA.out.mono ?_); rintro e w4 ⟨rfl, hr1, hg1⟩; have HR4 := Lib.hid hr1; have HG4 := Lib.hid hg1; clear hr1 hg1)
          go_roundw
          case rel =>
            have hr4 := HR4.out
            rw [← E4.out, HRL2.out] at hr4
            have hw4 := (HW3.out.drewN 1).putB i hlt E4.out l7 l8 HG4.out _ hr4
            refine ⟨i + 1, by omega, by go_num, Lib.hid (hw4.congr (fun p' hp j hj => ?_)), Lib.hid ((HI3.out.trans (Insd.drewN w3 1)).trans (Insd.grown HG4.out (show lo ≤ b4 by have := HW.out.l1; omega) l8))⟩
            rw [← clrTo_next C t col r i p' j HT.out]
            by_cases ep : p' = i
            · subst ep
              rw [if_pos rfl, if_pos rfl]
              by_cases ej : j < m
              · rw [if_pos ej, if_pos rfl, if_pos ej]
              · rw [if_neg ej, HF.out, show m + (j - m) = j by omega, if_pos rfl]
            · rw [if_neg ep, if_neg ep, if_neg ep]
          case measure => simp [intOf]; omega
    · obtain rfl : i = n := by omega
      go_wp2
      first | go_end0 | ((try simp only [Exit.inBlock, Exit.then]); refine bodyPost_ret (results_none rfl _ _ _) rfl ?_)
      exact ⟨rfl, HW.out, HI.out⟩
theorem swp_step (n : Nat) (C : Mtx) (t k col : Nat) (r : Int) (i : Nat) (hi : i < n) (j : Nat) : clrTo (swpR C t k) t col r n i j = stepI C t k col r i j := by
  have et : ∀ j, swpR C t k t j = C k j := fun j => by
    unfold swpR
    by_cases e : t = k
    · rw [if_pos e, e]
    · rw [if_neg e, if_pos rfl]
  unfold clrTo stepI
  by_cases e : i = t
  · rw [if_pos e, if_pos e, et]
  · rw [if_neg e, if_neg e, if_pos hi, et]
    have es : ∀ j, swpR C t k i j = swapI C t k i j := fun j => by
      unfold swpR swapI
      by_cases e1 : i = k
      · rw [if_pos e1, if_pos e1]
      · rw [if_neg e1, if_neg e, if_neg e1]
    rw [es, es]
theorem swp_byt {C : Mtx} (h : BytM C) (t k : Nat) : BytM (swpR C t k) := by
  intro i j
  unfold swpR
  split
  · exact h _ _
  · split <;> exact h _ _
theorem StepsTo.fill {n : Nat} {M0 M : Mtx} {col : Nat} (h : StepsTo n M0 col n M) : ∀ d, StepsTo n M0 (col + d) n M
  | 0 => h
  | d + 1 => (StepsTo.fill h d).skip (fun j h1 h2 => absurd h1 (by omega))
theorem grown_any {w w' : World} {row : Option Nat} (hg : w.grownBy w' row) (b : Nat) (h : row = none ∨ row = some b) : w.grownBy w' (some b) := by
  rcases h with h | h
  · subst h; exact ⟨hg.os, hg.tape, hg.output, hg.size, fun k hk _ => hg.block k hk (by simp)⟩
  · subst h; exact hg
theorem Work.grow {w w' : World} {lo mid top p n m q e sz k : Nat} {va vb u : Value} {Ra Rb : Nat → Value} {C : Mtx} {xs : List Value} (h : Work w lo mid top p va vb n m q Ra Rb C) (ho : w.ownsRow (p + 1) e sz u k xs) (hg : w.grownBy w' u.ownBlock) :
    Work w' lo mid top p va vb n m q Ra Rb C := by
  rcases hb : u.ownBlock with _ | b
  · exact h.grown (grown_any hg (p + 1) (.inl hb)) (by omega)
  · rw [hb] at hg
    exact h.grown hg (by have := own_base ho b hb; omega)
theorem info_int : (Try.prog.info? 3).map (fun i => (i.zero, i.size, i.bytes)) = some (some (.int .i64 0), 1, 8) := by kernel_rfl
set_option maxRecDepth 100000 in
set_option maxHeartbeats 4000000 in
theorem ssteps_any (lo mid top p n m q : Nat) (va vb : Value) (Ra Rb : Nat → Value) (C0 : Mtx) (w : World) (h : Work w lo mid top p va vb n m q Ra Rb C0) (hC : BytM C0) (hn1 : 1 ≤ n) (hn : n ≤ 1000) (hm1 : 1 ≤ m) (hm : m ≤ 1000) (hq1 : 1 ≤ q) (hq : q ≤ 1000) (hlo : lo ≤ w.heap.size) :
    Calls Try.prog 67 #[.pointer (some ⟨p, 0, none⟩)] w fun e w' => ∃ A c t Ra' Rb' C, e = .returned (.slice A t c) ∧ Work w' lo mid top p va vb n m q Ra' Rb' C ∧ StepsTo n C0 m t C ∧ Below lo w w' := by
  obtain ⟨g, cg, rfl, _⟩ := h.ga.form (by omega)
  have hva := h.cells.1
  obtain ⟨b0, c0, e0, _⟩ := h.ga.rform (by omega) 0 (by omega)
  have z0 := (h.ga.head 0 (by omega)).1
  rw [e0] at z0
  have H := Lib.hid h
  have HC0 := Lib.hid hC
  have t0 : ((n : Int) == 0) = false := by simp; omega
  have g9 : (0 : Int) < (n : Int) := by omega
  have HLO := Lib.hid hlo
  have HPL := Lib.hid h.blk.lt
  clear h hC e0 hlo
  go_enter Try.func67, Try.ntmps67
  go_upto_region 5 with (fail)
  clear hva z0
  go_loopw [3, 4, 5, 6, 20] (fun uv _ _ _ cv wr => ∃ (t col : Nat) (C : Mtx) (Ra Rb : Nat → Value) (u : Value) (cols : List Int), uv = u ∧ cv = .int .i64 col ∧ col ≤ m ∧ t < n ∧ cols.length = t ∧ Hid (wr.ownsRow (p + 1) 3 1 u cols.length (nums .i64 cols)) ∧ Hid (Work wr lo mid top p (.slice (some ⟨g, 0, none⟩) n cg) vb n m q Ra Rb C) ∧ Hid (StepsTo n C0 col t C) ∧ Hid (Below lo w wr)) (fun _ _ _ _ cv _ => m - (intOf cv).toNat)
  case atStart => exact ⟨0, 0, C0, Ra, Rb, _, [], rfl, rfl, by omega, by omega, rfl, Lib.hid (own_nil _ _ _ _), H, Lib.hid .start, Lib.hid (Below.refl _ _)⟩
  case round =>
    clear H
    obtain ⟨t, col, C, Ra, Rb, u, cols, rfl, rfl, hcol, htn, htl, HO, HW, HS, HB⟩ := hrel
    by_cases hlt : col < m
    · obtain ⟨A3, c3, e3⟩ := own_slice HO.out
      subst e3
      rw [htl] at HO ⊢
      have g0 : (0 : Int) ≤ (col : Int) := by omega
      have g1 : (col : Int) < (m : Int) := by omega
      have PV := Lib.hid (pivot_any lo mid top p n m q t col _ vb Ra Rb C wr HW.out hn1 (by omega) (by omega) hlt)
      have HTL := Lib.hid htl
      clear htl
      go_upto_region 9 with (go_at_call 76; (with_reducible refine PV.out.mono ?_); rintro e w1 ⟨r, rfl, hp, hw⟩; obtain rfl := hw.symm; have HP := Lib.hid hp; clear hp)
      clear PV
      rcases HP.out with ⟨er, hzz⟩ | ⟨k, er, htk, hkn, hzk, hnz⟩
      · have HZ := Lib.hid hzz
        have r0 : r < 0 := by omega
        clear er hzz HP
        go_wp2
        go_roundw
        case rel => exact ⟨t, col + 1, C, Ra, Rb, _, cols, rfl, by go_num, by omega, htn, HTL.out, by rw [HTL.out]; exact HO, HW, Lib.hid (HS.out.skip HZ.out), HB⟩
        case measure => simp [intOf]; omega
      · subst er
        have HZ := Lib.hid hzk
        have HN := Lib.hid hnz
        have HBY := Lib.hid (HS.out.byt HC0.out)
        have SW := Lib.hid (swap_any lo mid top p n m q t k _ vb Ra Rb C wr HW.out (by omega) htn hkn hm1 hq1)
        have r0 : ¬ (k : Int) < 0 := by omega
        clear hzk hnz HP
        go_upto_region 11 with (go_at_call 77; (with_reducible refine SW.out.mono ?_); rintro e w1 ⟨rfl, hw1, hi1⟩; have HW1 := Lib.hid hw1; have HI1 := Lib.hid hi1; clear hw1 hi1)
        have hnz2 : swpR C t k t col ≠ 0 := by
          have : swpR C t k t col = C k col := by
            unfold swpR
            by_cases e : t = k
            · rw [if_pos e, e]
            · rw [if_neg e, if_pos rfl]
          rw [this]; exact HN.out
        obtain ⟨r, hr, hr1, CL⟩ := clear_any lo mid top p n m q t col _ vb _ _ _ w1 HW1.out (swp_byt HBY.out t k) hn htn hlt hm hq1 hq hnz2
        have hr1' : gmI (C k col) r = 1 := by
          have : swpR C t k t col = C k col := by
            unfold swpR
            by_cases e : t = k
            · rw [if_pos e, e]
            · rw [if_neg e, if_pos rfl]
          rw [← this]; exact hr1
        have HST := Lib.hid (StepsTo.step HS.out htk hkn HZ.out HN.out hr hr1')
        have HCL := Lib.hid CL
        clear CL hr hr1 hr1' hnz2 SW
        go_upto_region 12 with (go_at_call 78; (with_reducible refine HCL.out.mono ?_); rintro e w2 ⟨rfl, hw2, hi2⟩; have HW2 := Lib.hid (hw2.congr (fun i hi j _ => swp_step n C t k col r i hi j)); have HI2 := Lib.hid (HI1.out.trans hi2); clear hw2 hi2)
        have HO2 := Lib.hid (HI2.out.own HO.out (by have := HW.out.l3; omega))
        have HB2 := Lib.hid (HB.out.trans (HI2.out.below (Nat.le_trans HLO.out HB.out.size)))
        have HPS := Lib.hid HW2.out.blk.lt
        clear HCL HI1 HI2 HW1 HO HW HB
        go_upto_region 13 with (at_builtin; refine print_append_num (w0 := w2) (p + 1) rfl _ _ 38 3 .i64 8 rfl Try.underlying38 info_int (by decide) (.slice A3 t c3) cols (col : Int) rfl rfl (by rw [HTL.out]; exact HO2.out) (Below.refl _ _) (by have := HPS.out; omega) (by have := HTL.out; omega) ?_; intro v3 w3 ho hb hg _; obtain ⟨A4, c4, e4⟩ := own_slice ho; rw [show (cols ++ [(col : Int)]).length = t + 1 by have := HTL.out; simp [this]] at e4 ho; subst e4; have HO3 := Lib.hid ho; have HB3 := Lib.hid (HB2.out.trans (hb.mono (show lo ≤ p + 1 by have := HW2.out.l1; have := HW2.out.l2; have := HW2.out.l3; omega))); have HW3 := Lib.hid (HW2.out.grow HO2.out hg); clear ho hb hg)
        have hva := HW3.out.cells.1
        by_cases hfull : t + 1 = n
        · have tt : ((t : Int) + 1 == (n : Int)) = true := by simp; omega
          have HF := Lib.hid hfull
          clear hfull
          go_wp2
          go_ret
          refine ⟨A4, c4, t + 1, _, _, _, rfl, HW3.out, ?_, HB3.out⟩
          have h1 := HST.out
          have h2 := StepsTo.fill (n := n) (by rw [HF.out] at h1; exact h1) (m - (col + 1))
          rw [show col + 1 + (m - (col + 1)) = m by omega] at h2
          rw [HF.out]; exact h2
        · have tt : ((t : Int) + 1 == (n : Int)) = false := by simp; omega
          have HF := Lib.hid hfull
          clear hfull
          go_wp2
          go_roundw
          case rel => exact ⟨t + 1, col + 1, _, _, _, _, cols ++ [(col : Int)], rfl, by go_num, by omega, by have := HF.out; omega, by have := HTL.out; simp [this], by rw [show (cols ++ [(col : Int)]).length = t + 1 by have := HTL.out; simp [this]]; exact HO3, HW3, HST, HB3⟩
          case measure => simp [intOf]; omega
    · obtain rfl : col = m := by omega
      obtain ⟨A3, c3, e3⟩ := own_slice HO.out
      subst e3
      rw [htl]
      have HTL := Lib.hid htl
      clear htl
      go_wp2
      go_ret
      exact ⟨A3, c3, t, _, _, _, rfl, HW.out, HS.out, HB.out⟩
def augM (m : Nat) (A B : Mtx) : Mtx := fun i j => if j < m then A i j else B i (j - m)
theorem augM_byt {m : Nat} {A B : Mtx} (hA : BytM A) (hB : BytM B) : BytM (augM m A B) := by
  intro i j
  unfold augM
  split
  · exact hA _ _
  · exact hB _ _
theorem mat_right (n m : Nat) (C : Mtx) (h1 : 1 ≤ n) (h2 : n ≤ 64) (h3 : 1 ≤ m) (h4 : m ≤ 64) : Mat.RightP (mat n m C) := by
  have e : ((mat n m C).getD 0 []).length = m := by rw [mat_get n m C 0 (by omega), line_len]
  refine ⟨by rw [mat_len]; exact h1, by rw [mat_len]; exact h2, by rw [e]; exact h3, by rw [e]; exact h4, fun l hl => ?_⟩
  obtain ⟨i, _, rfl⟩ := List.mem_map.1 hl
  rw [e, line_len]
theorem mat_bytes (n m : Nat) {C : Mtx} (h : BytM C) : Mat.AllBytes (mat n m C) := by
  intro l hl
  obtain ⟨i, _, rfl⟩ := List.mem_map.1 hl
  exact line_byt m _ (h i)
theorem of_grid (n m lo hi c : Nat) (A : Option Addr) (R : Nat → Value) (C : Mtx) (w : World) (h : Grid w lo hi (.slice A n c) n m R C) (hC : BytM C) (h1 : 1 ≤ n) (h2 : n ≤ 64) (h3 : 1 ≤ m) (h4 : m ≤ 64) :
    Calls Try.prog 33 #[.slice A n c] w fun e w' => ∃ b s cap, e = .returned (.tuple #[.pointer (some ⟨b, 0, none⟩), .int .i64 0]) ∧ Mat.MatIn w' b s n m cap (Mat.flat (mat n m C)) ∧ Below w.heap.size w w' := by
  obtain ⟨hl, hc, hC'⟩ := Kd.R_reads' h.rows
  have e : ((mat n m C).getD 0 []).length = m := by rw [mat_get n m C 0 (by omega), line_len]
  have h := Mat.of_right A c (mat n m C) w w (Below.refl _ _) hC' (mat_right n m C h1 h2 h3 h4) (mat_bytes n m hC) (by omega)
  rw [mat_len, e] at h
  refine h.mono ?_
  rintro e w' ⟨b, s, cap, rfl, hm, hb, _, _⟩
  exact ⟨b, s, cap, rfl, hm, hb⟩
theorem flat_mx (n m : Nat) (C : Mtx) (i j : Nat) (hi : i < n) (hj : j < m) : mx m (Mat.flat (mat n m C)) i j = C i j := by
  unfold mx
  rw [Mat.flat_getD m (mat n m C) (fun l hl => by obtain ⟨q, _, rfl⟩ := List.mem_map.1 hl; exact line_len _ _) i j (by rw [mat_len]; exact hi) hj, mat_get n m C i hi, line_get m _ j hj]
theorem swith_aug (v u : Value) (n m q : Nat) (xs ys : List Int) (w : World) (h : Mat.IsMat w v n m xs) (h' : Mat.IsMat w u n q ys) :
    Calls Try.prog 66 #[v, u] w fun e w' => ∃ mid top p va vb Ra Rb, e = .returned (.pointer (some ⟨p, 0, none⟩)) ∧ Work w' w.heap.size mid top p va vb n m q Ra Rb (augM m (mx m xs) (mx q ys)) ∧ Below w.heap.size w w' :=
  swith_any v u n m q xs ys w h h'
section
variable (b s cap n m : Nat) (xs : List Int) (w : World)
end
def SolvePost (n q : Nat) (C0 : Mtx) (w : World) (e : Ending) (w' : World) : Prop :=
  Below w.heap.size w w' ∧ ∃ t C, StepsTo n C0 n t C ∧ ((t < n ∧ e = .returned (.tuple #[.pointer none, .int .i64 23])) ∨
    (t = n ∧ ∃ b s cap, e = .returned (.tuple #[.pointer (some ⟨b, 0, none⟩), .int .i64 0]) ∧ Mat.MatIn w' b s n q cap (Mat.flat (mat n q (fun i j => C i (n + j))))))
theorem BytM.shift {C : Mtx} (h : BytM C) (n : Nat) : BytM (fun i j => C i (n + j)) := fun i j => h i (n + j)
theorem size_b (v : Value) (r c : Nat) (xs : List Int) (w : World) (h : Mat.IsMat w v r c xs) :
    Calls Try.prog 50 #[v] w fun e w' => e = .returned (.tuple #[.int .i64 r, .int .i64 c]) ∧ Below w.heap.size w w' := by
  refine (Mat.size_any v r c xs w h).mono ?_
  rintro e w' ⟨rfl, q, rfl⟩
  exact ⟨rfl, pw_below_drewN (Below.refl _ _) q⟩
section
variable (b s cap b1 s1 cap1 n m k q : Nat) (xs ys : List Int) (w : World)
set_option maxRecDepth 100000 in
set_option maxHeartbeats 2000000 in
theorem solve_good (h : Mat.MatIn w b s n n cap xs) (h' : Mat.MatIn w b1 s1 n q cap1 ys) :
    Calls Try.prog 52 #[.pointer (some ⟨b, 0, none⟩), .pointer (some ⟨b1, 0, none⟩)] w (SolvePost n q (augM n (mx n xs) (mx q ys)) w) := by
  have WT := Lib.hid (fun W (hB : Below w.heap.size w W) => swith_aug _ _ n n q xs ys W ⟨b, s, cap, rfl, h.below hB⟩ ⟨b1, s1, cap1, rfl, h'.below hB⟩)
  have SA := Lib.hid (fun W (hB : Below w.heap.size w W) => size_b _ n n xs W ⟨b, s, cap, rfl, h.below hB⟩)
  have SB := Lib.hid (fun W (hB : Below w.heap.size w W) => size_b _ n q ys W ⟨b1, s1, cap1, rfl, h'.below hB⟩)
  have BY := Lib.hid (augM_byt (m := n) (mx_byt (c := n) h.byt) (mx_byt (c := q) h'.byt))
  have N1 := Lib.hid (And.intro h.r0 (show n ≤ 1000 by have := h.r1; omega))
  have M1 := N1
  have Q1 := Lib.hid (And.intro h'.c0 (show q ≤ 1000 by have := h'.c1; omega))
  have NM := Lib.hid (And.intro h.r1 h'.c1)
  have HB := Lib.hid (Below.refl w.heap.size w)
  have t1 : ((n : Int) != (n : Int)) = false := by simp
  clear h h'
  go_enter Try.func52, Try.ntmps52
  go_wp2_with (first
    | (go_at_call 50; (first | (with_reducible refine (SA.out _ HB.out).mono ?_) | (with_reducible refine (SB.out _ HB.out).mono ?_)); rintro e w0 ⟨rfl, hb⟩; have HBn := Lib.hid (HB.out.trans (hb.mono HB.out.size)); clear HB hb; have HB := HBn; clear HBn)
    | (go_at_call 66; (with_reducible refine (WT.out _ HB.out).mono ?_); rintro e w1 ⟨mid, top, p, va, vb, Ra, Rb, rfl, hw, hb⟩; have HW := Lib.hid hw; have HS := Lib.hid hb.size; have HL := Lib.hid HB.out.size; have HBn := Lib.hid (HB.out.trans (hb.mono HB.out.size)); clear HB hb; have HB := HBn; clear HBn; clear hw)
    | (go_at_call 67; (with_reducible refine (ssteps_any _ mid top p _ _ _ va vb Ra Rb _ w1 HW.out BY.out N1.out.1 N1.out.2 M1.out.1 M1.out.2 Q1.out.1 Q1.out.2 HS.out).mono ?_); rintro e w2 ⟨A2, c2, t, Ra', Rb', C, rfl, hw2, hst, hb2⟩; obtain ⟨A3, c3, e3⟩ := own_slice hw2.gb.hd; subst e3; have hvb := hw2.cells.2; have HW2 := Lib.hid hw2; have HST := Lib.hid hst; have HB3 := Lib.hid (HB.out.trans (hb2.mono HL.out)); clear HB hw2 hst hb2)
    | (go_at_call 33; (with_reducible refine (of_grid n q _ _ c3 A3 Rb' (fun i j => C i (n + j)) _ HW2.out.gb (BytM.shift (HST.out.byt BY.out) n) N1.out.1 NM.out.1 Q1.out.1 NM.out.2).mono ?_); rintro e w3 ⟨b', s', cap', rfl, hm, hb⟩; have HM := Lib.hid hm; have HB4 := Lib.hid (HB3.out.trans (hb.mono HB3.out.size)); clear hm hb))
  · go_ret2
    exact ⟨HB3.out, t, C, HST.out, .inl ⟨by omega, rfl⟩⟩
  · go_ret2
    exact ⟨HB4.out, t, C, HST.out, .inr ⟨by have := HST.out.le; omega, b', s', cap', rfl, HM.out⟩⟩
theorem invert_good (h : Mat.MatIn w b s n n cap xs) :
    Calls Try.prog 34 #[.pointer (some ⟨b, 0, none⟩)] w (SolvePost n n (augM n (mx n xs) (mx n (Mat.oneTo n n))) w) := by
  have SA := Lib.hid (fun W (hB : Below w.heap.size w W) => size_b _ n n xs W ⟨b, s, cap, rfl, h.below hB⟩)
  have HH := Lib.hid (fun W (hB : Below w.heap.size w W) => h.below hB)
  have ON := Lib.hid (fun W => Mat.one_good n W h.r0 h.r1)
  have HB := Lib.hid (Below.refl w.heap.size w)
  have h1 : ((n : Int) != (n : Int)) = false := by simp
  clear h
  go_enter Try.func34, Try.ntmps34
  go_upto_region 5 with (first
    | (go_at_call 50; (with_reducible refine (SA.out _ HB.out).mono ?_); rintro e w0 ⟨rfl, hb⟩; have HBn := Lib.hid (HB.out.trans (hb.mono HB.out.size)); clear HB hb; have HB := HBn; clear HBn)
    | (go_at_call 51; (with_reducible refine (ON.out _).mono ?_); rintro e w1 ⟨b1, s1, cap1, rfl, hm, hb, _, _⟩; have HM := Lib.hid hm; have HBn := Lib.hid (HB.out.trans (hb.mono HB.out.size)); clear HB hb; have HB := HBn; clear HBn; clear hm))
  have SG := Lib.hid (solve_good b s cap b1 s1 cap1 n n xs (Mat.oneTo n n) w1 (HH.out _ HB.out) HM.out)
  go_wp2_with (go_at_call 52; (with_reducible refine SG.out.mono ?_); rintro e w2 ⟨hb, t, C, hst, hd⟩; have HST := Lib.hid hst; have HB2 := Lib.hid (HB.out.trans (hb.mono HB.out.size)); clear hst hb; rcases hd with ⟨htn, rfl⟩ | ⟨htn, b', s', cap', rfl, hm⟩)
  · go_ret2
    exact ⟨HB2.out, t, C, HST.out, .inl ⟨htn, rfl⟩⟩
  · go_ret2
    exact ⟨HB2.out, t, C, HST.out, .inr ⟨htn, b', s', cap', rfl, hm⟩⟩
end
inductive DetTo (n : Nat) (C0 : Mtx) : Nat → Int → Mtx → Prop
  | start : DetTo n C0 0 1 C0
  | step {col k : Nat} {r d : Int} {C : Mtx} : DetTo n C0 col d C → col ≤ k → k < n → (∀ j, col ≤ j → j < k → C j col = 0) → C k col ≠ 0 → Byt r → gmI (C k col) r = 1 → DetTo n C0 (col + 1) (gmI d (C k col)) (stepI C col k col r)
theorem DetTo.byt {n : Nat} {C0 : Mtx} (h0 : BytM C0) {col : Nat} {d : Int} {C : Mtx} (h : DetTo n C0 col d C) : BytM C ∧ Byt d := by
  induction h with
  | start => exact ⟨h0, ⟨by decide, by decide⟩⟩
  | step _ _ _ _ _ hr _ ih => exact ⟨stepI_byt ih.1 hr, gmI_byt ih.2⟩
section
variable (b s cap n m : Nat) (xs : List Int) (w : World)
end
end Go.Proofs.Ytcnfafappcbpnaa.Sol
namespace Go.Proofs.Ytcnfafappcbpnaa.Mat
open Go Go.RowKit Go.Proofs.Ytcnfafappcbpnaa.Mem Go.Proofs.Ytcnfafappcbpnaa.Bits Go.Proofs.Ytcnfafappcbpnaa.Gf Go.Proofs.YtcnfafappcbpnaaW.PrintWords
set_option linter.unusedVariables false
theorem oneTo_len (n : Nat) : ∀ k, (oneTo n k).length = n * n
  | 0 => by simp [oneTo]
  | k + 1 => by rw [oneTo, List.length_set, oneTo_len n k]
theorem oneTo_get (n : Nat) (j : Nat) (hj : j ≤ n) : ∀ i k, i < n → k < n → (oneTo n j).getD (i * n + k) 0 = if i = k ∧ i < j then 1 else 0 := by
  induction j with
  | zero =>
    intro i k hi hk
    have := idx_lt hi hk
    rw [if_neg (by omega)]
    simp [oneTo, List.getD_eq_getElem?_getD, this]
  | succ j ih =>
    intro i k hi hk
    have hlt := idx_lt hi hk
    have hjj := idx_lt (show j < n by omega) (show j < n by omega)
    rw [oneTo, List.getD_eq_getElem?_getD, List.getElem?_set]
    by_cases e : j * n + j = i * n + k
    · rw [if_pos e, if_pos (by rw [oneTo_len]; exact hjj)]
      have hij : j = i := by
        have h1 := Nat.div_mod_unique (a := j * n + j) (b := n) (c := j) (d := j) (by omega)
        have h2 := Nat.div_mod_unique (a := i * n + k) (b := n) (c := k) (d := i) (by omega)
        have h3 := (h1.2 ⟨by rw [Nat.mul_comm n j]; omega, by omega⟩).1
        have h4 := (h2.2 ⟨by rw [Nat.mul_comm n i]; omega, by omega⟩).1
        rw [e] at h3; omega
      subst hij
      rw [if_pos ⟨by omega, by omega⟩]; rfl
    · rw [if_neg e, ← List.getD_eq_getElem?_getD, ih (by omega) i k hi hk]
      by_cases h : i = k ∧ i < j
      · rw [if_pos h, if_pos ⟨h.1, by omega⟩]
      · rw [if_neg h, if_neg]
        rintro ⟨rfl, h'⟩
        have : i = j := by omega
        subst this
        exact e rfl
end Go.Proofs.Ytcnfafappcbpnaa.Mat
namespace Go.Proofs.Ytcnfafappcbpnaa.Sol
open Go Go.RowKit Go.Proofs.Ytcnfafappcbpnaa.Gf Go.Proofs.Ytcnfafappcbpnaa.Gi Go.Proofs.Ytcnfafappcbpnaa.Alg Go.Proofs.Ytcnfafappcbpnaa.Mem Go.Proofs.Ytcnfafappcbpnaa.Rws Go.Proofs.YtcnfafappcbpnaaW.PrintWords
set_option linter.unusedVariables false
theorem StepsTo.oneFull {n : Nat} {M0 : Mtx} (h0 : BytM M0) {col t : Nat} {M : Mtx} (h : StepsTo n M0 col t M) : t = col → OneTo (el M) n col := by
  induction h with
  | start => exact fun _ i j _ hj => absurd hj (Nat.not_lt_zero j)
  | skip hs _ _ => exact fun e => absurd hs.le.1 (by omega)
  | @step col t k r M hs htk hk hz hp hr h1 ih =>
    intro e
    have e' : t = col := by omega
    subst e'
    rw [stepI_el (hs.byt h0) hr h1]
    exact stepF_one (el M) n k t (ih rfl) hk htk (of_ne (hs.byt h0 k t) hp)
theorem StepsTo.eqs {n q : Nat} {A B : Mtx} (hA : BytM A) (hB : BytM B) {C : Mtx} (h : StepsTo n (augM n A B) n n C) (i : Nat) (hi : i < n) (l : Nat) (hl : l < q) :
    dotF n (el A i) (fun j => G.of (C j (n + l))) = G.of (B i l) := by
  have h0 := augM_byt (m := n) hA hB
  have ho := h.oneFull h0 rfl
  obtain ⟨c, hcn, hcl, hcz⟩ : ∃ c : Nat → G, (∀ j, j < n → c j = G.of (C j (n + l))) ∧ c (n + l) = 1 ∧ ∀ j, ¬ j < n → j ≠ n + l → c j = 0 :=
    ⟨fun j => if j < n then G.of (C j (n + l)) else if j = n + l then 1 else 0, fun j hj => by simp [hj], by simp only [if_true]; rw [if_neg (by omega)], fun j h1 h2 => by simp [h1, h2]⟩
  have hk := (h.ker (m := n + q) h0 c).1 (fun p hp => by
    unfold dotF
    rw [sum_at2 (a := p) (b := n + l) (by omega) (by omega) (by omega) (fun j _ h1 h2 => ?_)]
    · rw [hcn p hp, hcl, ho p p hp hp, if_pos rfl, Alg.one_mul, Fd.mul_one]
      exact Fd.add_self _
    · by_cases hj : j < n
      · rw [ho p j hp hj, if_neg (fun e => h1 e.symm), zero_mul]
      · rw [hcz j hj h2, mul_zero])
  have h1 := hk i hi
  unfold dotF at h1
  rw [sum_split] at h1
  have e1 : sum n (fun j => el (augM n A B) i j * c j) = dotF n (el A i) (fun j => G.of (C j (n + l))) := by
    unfold dotF
    exact sum_congr (fun j hj => by rw [hcn j hj]; unfold el augM; rw [if_pos hj])
  have e2 : sum q (fun j => el (augM n A B) i (n + j) * c (n + j)) = G.of (B i l) := by
    rw [sum_at (a := l) hl (fun j _ hne => by rw [hcz (n + j) (by omega) (by omega), mul_zero]), hcl, Fd.mul_one]
    unfold el augM
    rw [if_neg (by omega), Nat.add_sub_cancel_left]
  rw [e1, e2] at h1
  exact eq_of_add_zero h1
theorem of_dotTo {xs ys : List Int} (hx : Mat.Bytes xs) (hy : Mat.Bytes ys) : ∀ k, G.of (Mat.dotTo xs ys k) = sum k (fun j => G.of (xs.getD j 0) * G.of (ys.getD j 0))
  | 0 => rfl
  | k + 1 => by
    show G.of (xorI (Mat.dotTo xs ys k) (gmI (xs.getD k 0) (ys.getD k 0))) = _
    rw [of_xor (Mat.dotTo_range xs ys hx k) (gmI_byt (hx.getD k)), of_gm (hx.getD k) (hy.getD k), of_dotTo hx hy k]
    rfl
def idM : Mtx := fun i j => if i = j then 1 else 0
theorem mx_one (n i j : Nat) (hi : i < n) (hj : j < n) : mx n (Mat.oneTo n n) i j = idM i j := by
  unfold mx idM
  rw [Mat.oneTo_get n n (Nat.le_refl _) i j hi hj]
  by_cases e : i = j
  · rw [if_pos ⟨e, hi⟩, if_pos e]
  · rw [if_neg (fun h => e h.1), if_neg e]
theorem inv_ex {a : Int} (ha : Byt a) (h : a ≠ 0) : ∃ r, Byt r ∧ gmI a r = 1 := by
  obtain ⟨x, hx, rfl⟩ := byt_nat ha
  exact ⟨((ginv x : Nat) : Int), by have := ginv_lt x hx; exact ⟨by omega, by omega⟩, by simp only [gmI, Int.toNat_natCast]; rw [gm_inv x hx (by omega)]; rfl⟩
theorem least_of (P : Nat → Prop) : ∀ m, (∃ k, k < m ∧ P k) → ∃ k, k < m ∧ P k ∧ ∀ j, j < k → ¬ P j
  | 0, ⟨k, hk, _⟩ => by omega
  | m + 1, ⟨k, hk, h⟩ => by
    by_cases hm : ∃ k, k < m ∧ P k
    · obtain ⟨k, hk, h, hl⟩ := least_of P m hm
      exact ⟨k, by omega, h, hl⟩
    · have : k = m := by
        rcases Nat.lt_or_ge k m with h' | h'
        · exact absurd ⟨k, h', h⟩ hm
        · omega
      subst this
      exact ⟨k, by omega, h, fun j hj hp => hm ⟨j, hj, hp⟩⟩
theorem StepsTo.ex (n : Nat) {M0 : Mtx} (h0 : BytM M0) : ∀ col, ∃ t M, StepsTo n M0 col t M
  | 0 => ⟨0, M0, .start⟩
  | col + 1 => by
    obtain ⟨t, M, h⟩ := StepsTo.ex n h0 col
    by_cases hx : ∃ k, k < n ∧ (t ≤ k ∧ M k col ≠ 0)
    · obtain ⟨k, hk, ⟨h1, h2⟩, hl⟩ := least_of _ _ hx
      obtain ⟨r, hr, hr1⟩ := inv_ex (h.byt h0 k col) h2
      exact ⟨t + 1, _, .step h h1 hk (fun j h3 h4 => by
        rcases Int.decEq (M j col) 0 with e | e
        · exact absurd ⟨h3, e⟩ (hl j h4)
        · exact e) h2 hr hr1⟩
    · exact ⟨t, M, .skip h (fun j h3 h4 => by
        rcases Int.decEq (M j col) 0 with e | e
        · exact absurd ⟨j, h4, h3, e⟩ hx
        · exact e)⟩
def Solved (n q : Nat) (A B Z : Mtx) : Prop := BytM Z ∧ ∀ i, i < n → ∀ l, l < q → dotF n (el A i) (fun j => G.of (Z j l)) = G.of (B i l)
def SolvesE (n q : Nat) (A B : Mtx) (w : World) (e : Ending) (w' : World) : Prop :=
  ∃ b s cap Z, e = .returned (.tuple #[.pointer (some ⟨b, 0, none⟩), .int .i64 0]) ∧ Mat.MatIn w' b s n q cap (Mat.flat (mat n q Z)) ∧ Solved n q A B Z ∧ Below w.heap.size w w'
section
variable (b s cap b1 s1 cap1 n q t0 : Nat) (A B C0 : Mtx) (w : World)
theorem post_wholeE {e : Ending} {w' : World} {B2 : Mtx} (hA : BytM A) (hM : Mat.Bytes (Mat.flat (mat n n A))) (hB2 : BytM B2) (hst : StepsTo n A n t0 C0) (ht : t0 = n) (h : SolvePost n q (augM n (mx n (Mat.flat (mat n n A))) B2) w e w')
    (he : ∀ i, i < n → ∀ l, l < q → B2 i l = B i l) : SolvesE n q A B w e w' := by
  obtain ⟨hb, t, C, hs, hd⟩ := h
  have hx := augM_byt (m := n) (mx_byt (c := n) hM) hB2
  have hsame := (StepsTo.same (m := n) hx hA (fun i hi j hj => by unfold augM; rw [if_pos hj, flat_mx n n A i j hi hj]) hs hst (Nat.le_refl n)).1
  rcases hd with ⟨h1, _⟩ | ⟨h1, b', s', cap', rfl, hm⟩
  · omega
  · subst h1
    refine ⟨b', s', cap', _, rfl, hm, ⟨fun i j => hs.byt hx i (t + j), fun i hi l hl => ?_⟩, hb⟩
    rw [← he i hi l hl, ← hs.eqs (q := q) (mx_byt (c := t) hM) hB2 i hi l hl]
    unfold dotF
    exact sum_congr (fun j hj => by unfold el; rw [flat_mx t t A i j hi hj])
theorem solve_wholeE (h : Mat.MatIn w b s n n cap (Mat.flat (mat n n A))) (h' : Mat.MatIn w b1 s1 n q cap1 (Mat.flat (mat n q B))) (hA : BytM A) (hst : StepsTo n A n t0 C0) (ht : t0 = n) :
    Calls Try.prog 52 #[.pointer (some ⟨b, 0, none⟩), .pointer (some ⟨b1, 0, none⟩)] w (SolvesE n q A B w) :=
  (solve_good b s cap b1 s1 cap1 n q _ _ w h h').mono fun e w' hp => post_wholeE n q t0 A B C0 w hA h.byt (mx_byt h'.byt) hst ht hp (fun i hi l hl => flat_mx n q B i l hi hl)
theorem oneTo_bytes (n : Nat) : Mat.Bytes (Mat.oneTo n n) := by
  have h : ∀ k, Mat.Bytes (Mat.oneTo n k) := by
    intro k
    induction k with
    | zero => exact Mat.Bytes.zeros _
    | succ k ih => exact ih.set _ 1 (by decide) (by decide)
  exact h n
theorem invert_wholeE (h : Mat.MatIn w b s n n cap (Mat.flat (mat n n A))) (hA : BytM A) (hst : StepsTo n A n t0 C0) (ht : t0 = n) :
    Calls Try.prog 34 #[.pointer (some ⟨b, 0, none⟩)] w (SolvesE n n A idM w) :=
  (invert_good b s cap n _ w h).mono fun e w' hp => post_wholeE n n t0 A idM C0 w hA h.byt (mx_byt (oneTo_bytes n)) hst ht hp (fun i hi l hl => mx_one n i l hi hl)
end
end Go.Proofs.Ytcnfafappcbpnaa.Sol
namespace Go.Proofs.Ytcnfafappcbpnaa.Mdc
open Go Go.RowKit Go.Proofs.Ytcnfafappcbpnaa.Gf Go.Proofs.Ytcnfafappcbpnaa.Gi Go.Proofs.Ytcnfafappcbpnaa.Bits Go.Proofs.Ytcnfafappcbpnaa.Mem Go.Proofs.Ytcnfafappcbpnaa.Alg Go.Proofs.Ytcnfafappcbpnaa.Sol Go.Proofs.Ytcnfafappcbpnaa.Rws Go.Proofs.YtcnfafappcbpnaaW.PrintWords
set_option linter.unusedVariables false
def Inj (n : Nat) (P : Mtx) : Prop := ∀ c : Nat → G, (∀ i, i < n → dotF n (el P i) c = 0) → ∀ j, j < n → c j = 0
theorem Inj.uniq {n : Nat} {P : Mtx} (h : Inj n P) {x y : Nat → G} (he : ∀ i, i < n → dotF n (el P i) x = dotF n (el P i) y) (j : Nat) (hj : j < n) : x j = y j := by
  have h1 := h (fun j => x j + y j) (fun i hi => by
    have : dotF n (el P i) (fun j => x j + y j) = dotF n (el P i) x + dotF n (el P i) y := by
      unfold dotF
      rw [← sum_add]
      exact sum_congr (fun q hq => Fd.mul_add _ _ _)
    rw [this, he i hi, Fd.add_self]) j hj
  exact eq_of_add_zero h1
theorem zrow_n (v : Value) (n q i : Nat) (Z : Mtx) (w : World) (h : Mat.IsMat w v n q (Mat.flat (mat n q Z))) (hi : i < n) :
    Calls Try.prog 54 #[v, .int .i64 i] w fun e w' => ∃ A c, e = .returned (.slice A q c) ∧ Kd.R (Kd.int .u8) 5 w' w.heap.size (fun _ => True) (.slice A q c) (line q (Z i)) ∧ Below w.heap.size w w' := by
  refine (Mat.row_in v n q _ i w h hi).mono ?_
  rintro e w' ⟨u, rfl, ho, hb⟩
  have e1 : Mat.rowOf q (Mat.flat (mat n q Z)) i = line q (Z i) := by
    rw [Mat.rowOf_flat q (mat n q Z) (fun l hl => by
      obtain ⟨j, _, rfl⟩ := List.mem_map.1 hl
      exact line_len _ _) i (by rw [mat_len]; exact hi), mat_get n q Z i hi]
  rw [e1] at ho
  have hR : Kd.R (Kd.int .u8) 5 w' w.heap.size (fun _ => True) u (line q (Z i)) := Kd.R_of_own (by rw [line_len]; exact ho) (fun _ _ => trivial)
  obtain ⟨A, c, e⟩ := Kd.R_slice hR
  rw [line_len] at e
  subst e
  exact ⟨A, c, rfl, hR, hb⟩
theorem of_rows (n m c : Nat) (A : Option Addr) (C : Mtx) (w W : World) (hB : Below w.heap.size w W) (h : Kd.C kRow w A n (mat n m C)) (hC : BytM C) (hc : n ≤ c) (h1 : 1 ≤ n) (h2 : n ≤ 64) (h3 : 1 ≤ m) (h4 : m ≤ 64) :
    Calls Try.prog 33 #[.slice A n c] W fun e w' => ∃ b s cap, e = .returned (.tuple #[.pointer (some ⟨b, 0, none⟩), .int .i64 0]) ∧ Mat.MatIn w' b s n m cap (Mat.flat (mat n m C)) ∧ Below W.heap.size W w' := by
  have e : ((mat n m C).getD 0 []).length = m := by rw [mat_get n m C 0 (by omega), line_len]
  have h := Mat.of_right A c (mat n m C) w W hB (show Kd.C kRow w A (mat n m C).length (mat n m C) by rw [mat_len]; exact h) (mat_right n m C h1 h2 h3 h4) (mat_bytes n m hC) (by rw [mat_len]; exact hc)
  rw [mat_len, e] at h
  refine h.mono ?_
  rintro e w' ⟨b, s, cap, rfl, hm, hb, _, _⟩
  exact ⟨b, s, cap, rfl, hm, hb⟩
set_option maxRecDepth 100000 in
set_option maxHeartbeats 4000000 in
theorem grid_any (n q c0 c1 : Nat) (A0 A1 : Option Addr) (P B Z : Mtx) (w : World) (hA : Kd.C kRow w A0 n (mat n n P)) (hB : Kd.C kRow w A1 n (mat n q B)) (l0 : n ≤ c0) (l1 : n ≤ c1) (n1 : 1 ≤ n) (n2 : n ≤ 64) (q1 : 1 ≤ q) (q2 : q ≤ 64)
    (hP : BytM P) (hBb : BytM B) (hZ : BytM Z) (hinj : Inj n P) (he : ∀ i, i < n → ∀ l, l < q → dotF n (el P i) (fun j => G.of (Z j l)) = G.of (B i l)) :
    Calls Try.prog 81 #[.slice A0 n c0, .slice A1 n c1] w fun e w' => ∃ A c, e = .returned (.slice A n c) ∧ n ≤ c ∧ RowsR w' w.heap.size (.slice A n c) (mat n q Z) ∧ Below w.heap.size w w' := by
  have OA := Lib.hid (fun W (hW : Below w.heap.size w W) => of_rows n n c0 A0 P w W hW hA hP l0 n1 n2 n1 n2)
  have OB := Lib.hid (fun W (hW : Below w.heap.size w W) => of_rows n q c1 A1 B w W hW hB hBb l1 n1 n2 q1 q2)
  obtain ⟨t0, C0, hst⟩ := StepsTo.ex n hP n
  have ht : t0 = n := by have := (hst.one hP hinj).1; omega
  have SV := Lib.hid (fun b s cap b1 s1 cap1 W (h1 : Mat.MatIn W b s n n cap (Mat.flat (mat n n P))) (h2 : Mat.MatIn W b1 s1 n q cap1 (Mat.flat (mat n q B))) => show Calls Try.prog 52 #[.pointer (some ⟨b, 0, none⟩), .pointer (some ⟨b1, 0, none⟩)] W fun e w' => ∃ b s cap, e = .returned (.tuple #[.pointer (some ⟨b, 0, none⟩), .int .i64 0]) ∧ Mat.MatIn w' b s n q cap (Mat.flat (mat n q Z)) ∧ Below W.heap.size W w' from (solve_wholeE b s cap b1 s1 cap1 n q t0 P B C0 W h1 h2 hP hst ht).mono (by
    rintro e w' ⟨b, s, cap, Z', rfl, hm, hs, hb⟩
    refine ⟨b, s, cap, rfl, ?_, hb⟩
    have e2 : mat n q Z' = mat n q Z := mat_congr n q _ _ (fun i hi l hl => G.of_inj (hs.1 i l) (hZ i l) (hinj.uniq (x := fun j => G.of (Z' j l)) (y := fun j => G.of (Z j l)) (fun i hi => by rw [hs.2 i hi l hl, he i hi l hl]) i hi))
    rw [← e2]
    exact hm))
  have HB0 := Lib.hid (Below.refl w.heap.size w)
  clear hA hB hP hBb hZ hinj he hst ht l0 l1
  have RW := Lib.hid (fun v W i (h : Mat.IsMat W v n q (Mat.flat (mat n q Z))) (hi : i < n) => zrow_n v n q i Z W h hi)
  have SZ := Lib.hid (fun v W (h : Mat.IsMat W v n q (Mat.flat (mat n q Z))) => size_b v n q _ W h)
  go_enter Try.func81, Try.ntmps81
  go_upto_region 2 with (go_at_call 33; (with_reducible refine (OA.out _ HB0.out).mono ?_); rintro e w1 ⟨b1, s1, p1, rfl, hm, hb⟩; have HM1 := Lib.hid hm; have HB1 := Lib.hid hb; clear hm hb)
  go_upto_region 3 with (go_at_call 33; (with_reducible refine (OB.out _ HB1.out).mono ?_); rintro e w2 ⟨b2, s2, p2, rfl, hm, hb⟩; have HM2 := Lib.hid hm; have HB2 := Lib.hid (HB1.out.trans (hb.mono HB1.out.size)); have HM1' := Lib.hid (HM1.out.below hb); clear HM1 HB1 hm hb)
  go_upto_region 5 with (first
    | (go_at_call 52; (with_reducible refine (SV.out _ _ _ _ _ _ _ HM1'.out HM2.out).mono ?_); rintro e w3 ⟨b3, s3, p3, rfl, hm, hb⟩; have HM3 := Lib.hid hm; have HI3 : Mat.IsMat w3 (.pointer (some ⟨b3, 0, none⟩)) n q (Mat.flat (mat n q Z)) := ⟨b3, s3, p3, rfl, hm⟩; have HI4 := Lib.hid HI3; clear HI3; have HB3 := Lib.hid (HB2.out.trans (hb.mono HB2.out.size)); clear HB2 hm hb)
    | (go_at_call 50; (with_reducible refine (SZ.out _ _ HI4.out).mono ?_); rintro e w4 ⟨rfl, hb⟩; have HI5 : Mat.IsMat w4 (.pointer (some ⟨b3, 0, none⟩)) n q (Mat.flat (mat n q Z)) := ⟨b3, s3, p3, rfl, HM3.out.below hb⟩; have HI := Lib.hid HI5; clear HI5 HI4; have HB4 := Lib.hid (HB3.out.trans (hb.mono HB3.out.size)); clear HB3 HM3 hb))
  clear OA OB SV SZ HM1' HM2
  have HIB := Lib.hid (fun W (hB : Below w4.heap.size w4 W) => show Mat.IsMat W (.pointer (some ⟨b3, 0, none⟩)) n q (Mat.flat (mat n q Z)) by
    obtain ⟨b, s, p, e, hm⟩ := HI.out
    exact ⟨b, s, p, e, hm.below hB⟩)
  clear HI
  go_wp2
  go_loopw [13, 14, 37] (fun uv _ iv wr => ∃ (i : Nat) (u : Value), uv = u ∧ i ≤ n ∧ iv = .int .i64 i ∧ Hid (RowsR wr w4.heap.size u (mat i q Z)) ∧ Hid (Below w4.heap.size w4 wr)) (fun _ _ iv _ => n - (intOf iv).toNat)
  case atStart => exact ⟨0, _, rfl, by omega, rfl, Lib.hid (Kd.R_nil _ _ _ _ _), Lib.hid (Below.refl _ _)⟩
  case round =>
    obtain ⟨i, u, rfl, hi, rfl, HO, HB⟩ := hrel
    by_cases hlt : i < n
    · have g1 : (i : Int) < (n : Int) := by omega
      have RI := Lib.hid (RW.out _ wr i (HIB.out wr HB.out) hlt)
      go_wp2_with (first
        | (go_at_call 54; (with_reducible refine RI.out.mono ?_); rintro e w5 ⟨A5, c5, rfl, hr, hb⟩; have HR5 := Lib.hid hr; have HB5 := Lib.hid hb; clear hr hb)
        | (at_builtin; refine rows_append2 (w0 := w4) rfl w4.heap.size rfl _ _ rfl u13 _ (mat i q Z) _ rfl rfl HO.out (HB.out.trans (HB5.out.mono HB.out.size)) HB.out.size HB5.out HR5.out (by rw [mat_len]; omega) ?_; intro v6 w6 h6 hb6; have H6 := Lib.hid h6; have HB6 := Lib.hid hb6; clear h6 hb6))
      go_roundw
      case rel => exact ⟨i + 1, _, rfl, by omega, by go_num, Lib.hid (by rw [mat_succ]; exact H6.out), HB6⟩
      case measure => simp [intOf]; omega
    · obtain rfl : n = i := by omega
      obtain ⟨A7, c7, rfl⟩ := Kd.R_slice HO.out
      rw [mat_len] at *
      have HL := Lib.hid (show n ≤ c7 from (Kd.R_reads' HO.out).2.1)
      go_wp2
      go_ret
      exact ⟨A7, c7, rfl, HL.out, Kd.R_lower HO.out HB4.out.size, HB4.out.trans (HB.out.mono HB4.out.size)⟩
set_option maxRecDepth 100000 in
set_option maxHeartbeats 4000000 in
theorem solved_any (n c0 c1 : Nat) (A0 A1 : Option Addr) (P B Z : Mtx) (w : World) (hA : Kd.C kRow w A0 n (mat n n P)) (hB : Kd.C kRow w A1 n (mat n 1 B)) (l0 : n ≤ c0) (l1 : n ≤ c1) (n1 : 1 ≤ n) (n2 : n ≤ 64)
    (hP : BytM P) (hBb : BytM B) (hZ : BytM Z) (hinj : Inj n P) (he : ∀ i, i < n → dotF n (el P i) (fun j => G.of (Z j 0)) = G.of (B i 0)) :
    Calls Try.prog 80 #[.slice A0 n c0, .slice A1 n c1] w fun e w' => ∃ A c, e = .returned (.slice A n c) ∧ (Kd.int .u8).R 5 w' w.heap.size (fun _ => True) (.slice A n c) (line n (fun j => Z j 0)) ∧ Below w.heap.size w w' := by
  have GR := Lib.hid (grid_any n 1 c0 c1 A0 A1 P B Z w hA hB l0 l1 n1 n2 (Nat.le_refl 1) (by decide) hP hBb hZ hinj (fun i hi l hl => by
    obtain rfl : l = 0 := by omega
    exact he i hi))
  clear hA hB hP hBb hZ hinj he l0 l1
  go_enter Try.func80, Try.ntmps80
  go_upto_region 3 with (go_at_call 81; (with_reducible refine GR.out.mono ?_); rintro e w1 ⟨A5, c5, rfl, hl, hr, hb⟩; have HC := Lib.hid (by have h := (Kd.R_reads' hr).2.2; rw [mat_len] at h; exact h); have HB1 := Lib.hid hb; clear hl hr hb)
  go_loopw [5, 7, 12] (fun uv _ iv wr => ∃ (i : Nat) (u : Value), uv = u ∧ i ≤ n ∧ iv = .int .i64 i ∧ Hid ((Kd.int .u8).R 5 wr w1.heap.size (fun _ => True) u (line i (fun j => Z j 0))) ∧ Hid (Below w1.heap.size w1 wr)) (fun _ _ iv _ => n - (intOf iv).toNat)
  case atStart => exact ⟨0, _, rfl, by omega, rfl, Lib.hid (Kd.R_nil _ _ _ _ _), Lib.hid (Below.refl _ _)⟩
  case round =>
    obtain ⟨i, u, rfl, hi, rfl, HO, HB⟩ := hrel
    by_cases hlt : i < n
    · have g1 : (i : Int) < (n : Int) := by omega
      have g2 : (0 : Int) ≤ (i : Int) := by omega
      have g3 : (0 : Int) < (1 : Int) := by omega
      obtain ⟨ad, A8, c8, rfl, kc, _, hc8⟩ := mrow (Kd.C_below HC.out HB.out) i hlt
      obtain ⟨a8, rfl, kd⟩ := Sol.at_row hc8 0 (by decide)
      rw [line_get _ _ _ (by decide)] at kd
      have kd' : wr.cell? a8 = some (.int .u8 (Z i 0)) := kd
      clear kd hc8
      obtain ⟨z, hz⟩ : ∃ z, z = Z i 0 := ⟨_, rfl⟩
      rw [← hz] at kd'
      have HZ := Lib.hid hz
      clear hz
      have HLS := Lib.hid (show line i (fun j => Z j 0) ++ [z] = line (i + 1) (fun j => Z j 0) by rw [HZ.out, line_succ])
      go_wp2_with (at_builtin; refine Kd.R_append (Kd.int .u8) (w0 := w1) w1.heap.size rfl _ _ 22 5 (.int .u8 0) 1 rfl Try.underlying22 Rws.info_byte rfl (by decide) (by decide) u5 (line i (fun j => Z j 0)) z [.int .u8 z] (fun _ => True) (fun _ => False) rfl rfl rfl (fun _ hk => hk.elim) (fun _ _ => trivial) HO.out HB.out HB.out.size (by rw [line_len]; omega) ?_; intro v6 w6 h6 hb6 _ _; rw [HLS.out] at h6; have H6 := Lib.hid h6; have HB6 := Lib.hid hb6; clear h6 hb6)
      go_roundw
      case rel => exact ⟨i + 1, _, rfl, by omega, by go_num, H6, HB6⟩
      case measure => simp [intOf]; omega
    · obtain rfl : n = i := by omega
      obtain ⟨A7, c7, rfl⟩ := Kd.R_slice HO.out
      rw [line_len] at *
      go_wp2
      go_ret
      exact ⟨A7, c7, rfl, Kd.R_lower HO.out HB1.out.size, HB1.out.trans (HB.out.mono HB1.out.size)⟩
set_option maxRecDepth 100000 in
theorem div_is (y b : Int) (hy : Byt y) (hb : Byt b) (h0 : b ≠ 0) (w : World) : Calls Try.prog 73 #[.int .u8 (gmI y b), .int .u8 b] w fun e w' => e = .returned (.tuple #[.int .u8 y, .int .i64 0]) ∧ w' = w := by
  obtain ⟨r, hr, hbr, IV⟩ := inv_still b w hb h0
  have ha : Byt (gmI y b) := gmI_byt hy
  have e : gmI (gmI y b) r = y := by
    refine G.of_inj (gmI_byt ha) hy ?_
    rw [of_gm ha hr, of_gm hy hb, Fd.mul_assoc, ← of_gm hb hr, hbr, G.of_one, Fd.mul_one]
  have MU := Lib.hid (fun w => mul_still (gmI y b) r w ha hr)
  rw [e] at MU
  have IN := Lib.hid IV
  obtain ⟨a, hA⟩ : ∃ a, a = gmI y b := ⟨_, rfl⟩
  rw [← hA] at MU ⊢
  clear hA e ha IV hbr
  go_enter Try.func73, Try.ntmps73
  go_wp2_with (first
    | (go_at_call 79; (with_reducible refine (IN.out _).mono ?_); rintro e u ⟨rfl, hu⟩; have hu' := hu.symm; subst hu'; clear hu)
    | (go_at_call 26; (with_reducible refine (MU.out _).mono ?_); rintro e u ⟨rfl, hu⟩; have hu' := hu.symm; subst hu'; clear hu))
  go_ret2
  exact ⟨rfl, rfl⟩
end Go.Proofs.Ytcnfafappcbpnaa.Mdc
namespace Go.Proofs.Ytcnfafappcbpnaa.BHealFragments
open Go Go.RowKit Go.Proofs.Ytcnfafappcbpnaa.PHealFragments Go.Proofs.Ytcnfafappcbpnaa.Gf Go.Proofs.Ytcnfafappcbpnaa.Bits Go.Proofs.YtcnfafappcbpnaaW.PrintWords Go.Proofs.YtcnfafappcbpnaaW.PrintLast
theorem xt_is (x : Nat) (h : x < 256) : (if 255 < x * 2 then x * 2 ^^^ 285 else x * 2) = xt x := by
  have e : ∀ x, x < 256 → (if 255 < x * 2 then x * 2 ^^^ 285 else x * 2) = xt x := by decide +kernel
  exact e x h
theorem gf_mul_loop (n : Nat) : ∀ (k b p x : Nat), b < 2 ^ n → p < 256 → x < 256 → n < k → n ≤ 8 → gf_Mul.l0 k b p x = some ((gmA n b p x : Nat) : Int) := by
  induction n with
  | zero =>
    intro k b p x hb hp hx hk hn
    obtain ⟨k, rfl⟩ : ∃ m, k = m + 1 := ⟨k - 1, by omega⟩
    simp only [gf_Mul.l0, gmA]
    rw [if_neg (by simp at hb; omega)]
    congr 1; omega
  | succ n ih =>
    intro k b p x hb hp hx hk hn
    obtain ⟨k, rfl⟩ : ∃ m, k = m + 1 := ⟨k - 1, by omega⟩
    have hb8 : b < 256 := Nat.lt_of_lt_of_le hb (Nat.pow_le_pow_right (by decide) hn)
    by_cases h0 : b = 0
    · subst h0
      simp only [gf_Mul.l0]
      rw [if_neg (by omega), gmA_zero]
      congr 1; omega
    have hx2 : wrap64 ((x : Int) * 2) = ((x * 2 : Nat) : Int) := by rw [wrap64_in _ (by omega) (by omega)]; omega
    have hb2 : (b : Int) / 2 = ((b / 2 : Nat) : Int) := by omega
    have hlt : b / 2 < 2 ^ n := by rw [Nat.pow_succ] at hb; omega
    have e1 : bits .xor .i64 (p : Int) (x : Int) = ((p ^^^ x : Nat) : Int) := xor_i64 p x (by omega) (by omega)
    have e2 : bits .xor .i64 ((x * 2 : Nat) : Int) 285 = ((x * 2 ^^^ 285 : Nat) : Int) := xor_i64 (x * 2) 285 (by omega) (by omega)
    have hpx : p ^^^ x < 256 := by
      have : p ^^^ x < 2 ^ 8 := Nat.xor_lt_two_pow (by omega) (by omega)
      simpa using this
    simp only [gf_Mul.l0, gmA]
    rw [if_pos (by omega), and1_u8 b hb8, hx2, hb2, e1, e2]
    have hxt := xt_is x hx
    have hxl := xt_lt x
    rcases bit01 b with h | h
    · rw [if_neg (by omega), h, Nat.zero_mul, Nat.xor_zero]
      by_cases hc : 255 < x * 2
      · rw [if_pos (by omega)]
        rw [if_pos hc] at hxt
        rw [hxt, ih k _ _ _ hlt hp hxl (by omega) (by omega)]
      · rw [if_neg (by omega)]
        rw [if_neg hc] at hxt
        rw [hxt, ih k _ _ _ hlt hp hxl (by omega) (by omega)]
    · rw [if_pos (by omega), h, Nat.one_mul]
      by_cases hc : 255 < x * 2
      · rw [if_pos (by omega)]
        rw [if_pos hc] at hxt
        rw [hxt, ih k _ _ _ hlt hpx hxl (by omega) (by omega)]
      · rw [if_neg (by omega)]
        rw [if_neg hc] at hxt
        rw [hxt, ih k _ _ _ hlt hpx hxl (by omega) (by omega)]
theorem gf_mul (k a b : Nat) (ha : a < 256) (hb : b < 256) (hk : 9 ≤ k) : gf_Mul.f k a b = some ((gm a b : Nat) : Int) := by
  unfold gf_Mul.f gm
  rw [wrap64_nat a (by omega)]
  exact gf_mul_loop 8 k b 0 a (by omega) (by omega) ha (by omega) (by omega)
end Go.Proofs.Ytcnfafappcbpnaa.BHealFragments
namespace Go.Proofs.Ytcnfafappcbpnaa.BHealFragments
open Go Go.RowKit Go.Proofs.Ytcnfafappcbpnaa.PHealFragments Go.Proofs.Ytcnfafappcbpnaa.Gf Go.Proofs.Ytcnfafappcbpnaa.Bits Go.Proofs.Ytcnfafappcbpnaa.Rws Go.Proofs.YtcnfafappcbpnaaW.PrintWords Go.Proofs.YtcnfafappcbpnaaW.PrintLast
set_option linter.unusedVariables false
def pows (x n : Nat) : List Int := (List.range n).map (fun i => ((gp x i : Nat) : Int))
theorem pows_succ (x n : Nat) : pows x (n + 1) = pows x n ++ [((gp x n : Nat) : Int)] := by simp [pows, List.range_succ]
theorem pows_len (x n : Nat) : (pows x n).length = n := by simp [pows]
theorem vinc (i : Nat) (h : i < 1000000) : wrap64 ((i : Int) + 1) = ((i + 1 : Nat) : Int) := by rw [wrap64_in _ (by omega) (by omega)]; omega
theorem vrow_loop (x : Nat) (hx : x < 256) (n : Nat) (hn : n ≤ 100) (d : Nat) : ∀ (k i : Nat), i + d = n → 20 + d ≤ k → vand_Row.l0 k x (pows x i) ((gp x i : Nat) : Int) n i = some (pows x n) := by
  induction d with
  | zero =>
    intro k i hd hk
    obtain ⟨k, rfl⟩ : ∃ m, k = m + 1 := ⟨k - 1, by omega⟩
    obtain rfl : i = n := by omega
    simp only [vand_Row.l0]
    rw [if_neg (by omega)]
  | succ d ih =>
    intro k i hd hk
    obtain ⟨k, rfl⟩ : ∃ m, k = m + 1 := ⟨k - 1, by omega⟩
    simp only [vand_Row.l0]
    rw [if_pos (by omega), if_pos (by rw [pows_len]; omega), gf_mul k (gp x i) x (gp_lt x hx i) hx (by omega), bnd, vinc i (by omega), ← pows_succ, gp_succ]
    exact ih k (i + 1) (by omega) (by omega)
theorem vrow_f (x : Nat) (hx : x < 256) (n : Int) (hn : n ≤ 100) : vand_Row.f 200 x n = some (pows x n.toNat) := by
  have h0 := vrow_loop x hx n.toNat (by omega) n.toNat 200 0 (by omega) (by omega)
  unfold vand_Row.f
  have : mx n 0 = ((n.toNat : Nat) : Int) := by
    unfold mx
    split <;> omega
  rw [this]
  exact h0
theorem row_calls (x : Nat) (hx : x < 256) (n : Int) (hn : n ≤ 100) (W : World) :
    Calls Try.prog 48 #[.int .u8 x, .int .i64 n] W fun e w' => ∃ A c, e = .returned (.slice A n.toNat c) ∧ Kd.R (Kd.int .u8) 5 w' W.heap.size (fun _ => True) (.slice A n.toNat c) (pows x n.toNat) ∧ Below W.heap.size W w' := by
  refine (vand_Row.calls 200 x n _ W (vrow_f x hx n hn)).mono ?_
  rintro e w' ⟨v, rfl, hr, hb⟩
  obtain ⟨A, c, rfl⟩ := Kd.R_slice hr
  rw [pows_len] at *
  exact ⟨A, c, rfl, hr, hb⟩
end Go.Proofs.Ytcnfafappcbpnaa.BHealFragments
namespace Go.Proofs.Ytcnfafappcbpnaa.BHealFragments
open Go Go.RowKit Go.Proofs.Ytcnfafappcbpnaa.PHealFragments Go.Proofs.Ytcnfafappcbpnaa.Gf Go.Proofs.Ytcnfafappcbpnaa.Bits Go.Proofs.YtcnfafappcbpnaaW.PrintWords Go.Proofs.YtcnfafappcbpnaaW.PrintLast
end Go.Proofs.Ytcnfafappcbpnaa.BHealFragments
namespace Go.Proofs.Ytcnfafappcbpnaa.BHealFragments
open Go Go.RowKit Go.Proofs.Ytcnfafappcbpnaa.PHealFragments Go.Proofs.Ytcnfafappcbpnaa.Gf Go.Proofs.Ytcnfafappcbpnaa.Bits Go.Proofs.Ytcnfafappcbpnaa.Rws Go.Proofs.Ytcnfafappcbpnaa.BHealFragments Go.Proofs.YtcnfafappcbpnaaW.PrintWords Go.Proofs.YtcnfafappcbpnaaW.PrintLast
set_option linter.unusedVariables false
end Go.Proofs.Ytcnfafappcbpnaa.BHealFragments
namespace Go.Proofs.Ytcnfafappcbpnaa.VPts
open Go Go.Proofs.Ytcnfafappcbpnaa.Gf
def hit (f : Nat → Nat) : Nat → Nat → Bool
  | 0, _ => false
  | k + 1, y => hit f k y || f k == y
def firsts (f : Nat → Nat) : Nat → List Int
  | 0 => []
  | k + 1 => if hit f k (f k) then firsts f k else firsts f k ++ [(k : Int)]
def pws (f : Nat → Nat) : Nat → List Int
  | 0 => []
  | k + 1 => if hit f k (f k) then pws f k else pws f k ++ [(f k : Int)]
theorem pws_succ (f : Nat → Nat) (k : Nat) : pws f (k + 1) = if hit f k (f k) then pws f k else pws f k ++ [(f k : Int)] := rfl
theorem firsts_succ (f : Nat → Nat) (k : Nat) : firsts f (k + 1) = if hit f k (f k) then firsts f k else firsts f k ++ [(k : Int)] := rfl
theorem hit_succ (f : Nat → Nat) (k y : Nat) : hit f (k + 1) y = (hit f k y || f k == y) := rfl
theorem mem_pws (f : Nat → Nat) (k y : Nat) : ((y : Int) ∈ pws f k) ↔ hit f k y = true := by
  induction k with
  | zero => simp [pws, hit]
  | succ k ih =>
    rw [pws_succ, hit_succ]
    by_cases h : hit f k (f k) = true
    · rw [if_pos h, ih]
      constructor
      · intro h2; simp [h2]
      · intro h2
        rcases (Bool.or_eq_true _ _).mp h2 with h3 | h3
        · exact h3
        · rw [beq_iff_eq] at h3; rw [← h3]; exact h
    · rw [if_neg h, List.mem_append, ih]
      simp
      constructor
      · rintro (h2 | h2)
        · exact .inl h2
        · exact .inr (by omega)
      · rintro (h2 | h2)
        · exact .inl h2
        · exact .inr (by omega)
theorem len_le (f : Nat → Nat) (k : Nat) : (firsts f k).length ≤ k := by
  induction k with
  | zero => simp [firsts]
  | succ k ih => rw [firsts_succ]; by_cases h : hit f k (f k) = true <;> simp [h] <;> omega
theorem pws_nodup (f : Nat → Nat) (k : Nat) : (pws f k).Nodup := by
  induction k with
  | zero => simp [pws]
  | succ k ih =>
    rw [pws_succ]
    by_cases h : hit f k (f k) = true
    · rw [if_pos h]; exact ih
    · rw [if_neg h, List.nodup_append]
      refine ⟨ih, by simp, ?_⟩
      intro a ha b hb
      simp at hb
      subst hb
      intro e
      subst e
      exact h ((mem_pws f k _).mp ha)
theorem pre (f : Nat → Nat) (k d : Nat) : firsts f k <+: firsts f (k + d) := by
  induction d with
  | zero => exact List.prefix_refl _
  | succ d ih =>
    rw [← Nat.add_assoc]
    rw [firsts_succ]
    by_cases h : hit f (k + d) (f (k + d)) = true
    · rw [if_pos h]; exact ih
    · rw [if_neg h]; exact ih.trans (List.prefix_append _ _)
def Stop (f : Nat → Nat) (n k : Nat) : Prop := k ≤ 256 ∧ (firsts f k).length ≤ n ∧ (k = 256 ∨ (firsts f k).length = n)
theorem firsts_bytes (f : Nat → Nat) (k : Nat) (hk : k ≤ 256) : ∀ x ∈ firsts f k, 0 ≤ x ∧ x < 256 := by
  induction k with
  | zero => intro x hx; cases hx
  | succ k ih =>
    intro x hx
    rw [firsts_succ] at hx
    by_cases h : hit f k (f k) = true
    · rw [if_pos h] at hx; exact ih (by omega) x hx
    · rw [if_neg h, List.mem_append] at hx
      rcases hx with hx | hx
      · exact ih (by omega) x hx
      · simp at hx; omega
end Go.Proofs.Ytcnfafappcbpnaa.VPts
namespace Go.Proofs.Ytcnfafappcbpnaa.BHealFragments
open Go Go.RowKit Go.Proofs.Ytcnfafappcbpnaa.PHealFragments Go.Proofs.Ytcnfafappcbpnaa.Gf Go.Proofs.Ytcnfafappcbpnaa.Bits Go.Proofs.Ytcnfafappcbpnaa.VPts Go.Proofs.YtcnfafappcbpnaaW.PrintWords Go.Proofs.YtcnfafappcbpnaaW.PrintLast
end Go.Proofs.Ytcnfafappcbpnaa.BHealFragments
namespace Go.Proofs.Ytcnfafappcbpnaa.BHealFragments
open Go Go.RowKit Go.Proofs.Ytcnfafappcbpnaa.PHealFragments Go.Proofs.Ytcnfafappcbpnaa.Gf Go.Proofs.Ytcnfafappcbpnaa.Bits Go.Proofs.YtcnfafappcbpnaaW.PrintWords Go.Proofs.YtcnfafappcbpnaaW.PrintLast
theorem gf_pow_loop (m : Nat) : ∀ (k a n p : Nat), a < 256 → p < 256 → n < 2 ^ m → n < 9223372036854775808 → 10 + m ≤ k →
    gf_Pow.l0 k a n p = some ((gm p (gp a n) : Nat) : Int) := by
  induction m with
  | zero =>
    intro k a n p ha hp hn hn2 hk
    obtain ⟨k, rfl⟩ : ∃ m, k = m + 1 := ⟨k - 1, by omega⟩
    have h0 : n = 0 := by simp at hn; exact hn
    subst h0
    simp only [gf_Pow.l0, gp]
    rw [if_neg (by omega), gm_one]
  | succ m ih =>
    intro k a n p ha hp hn hn2 hk
    obtain ⟨k, rfl⟩ : ∃ m, k = m + 1 := ⟨k - 1, by omega⟩
    simp only [gf_Pow.l0]
    by_cases h0 : n = 0
    · subst h0
      rw [if_neg (by omega), gp, gm_one]
    have hh : n / 2 < 2 ^ m := by rw [Nat.pow_succ] at hn; omega
    have hsq := gm_lt a a ha
    rw [if_pos (by omega), and1_i64 n hn2, show (n : Int) / 2 = ((n / 2 : Nat) : Int) by omega]
    rcases bit01 n with h | h
    · rw [if_neg (by omega), gf_mul k a a ha ha (by omega)]
      simp only [bnd]
      rw [ih k _ _ p hsq hp hh (by omega) (by omega), gp_sq a ha, show 2 * (n / 2) = n by omega]
    · rw [if_pos (by omega), gf_mul k p a hp ha (by omega)]
      simp only [bnd]
      rw [gf_mul k a a ha ha (by omega)]
      simp only [bnd]
      rw [ih k _ _ _ hsq (gm_lt p a hp) hh (by omega) (by omega), gp_sq a ha, gm_assoc _ _ _ hp ha (gp_lt a ha _), gm_comm a _ ha (gp_lt a ha _), gp_succ,
        show 2 * (n / 2) + 1 = n by omega]
theorem gf_pow (k a n : Nat) (ha : a < 256) (hn : n < 9223372036854775808) (hk : 80 ≤ k) : gf_Pow.f k a n = some ((gp a n : Nat) : Int) := by
  have h := gf_pow_loop 63 k a n 1 ha (by decide) hn hn (by omega)
  rw [gm_one_left _ (gp_lt a ha n)] at h
  exact h
end Go.Proofs.Ytcnfafappcbpnaa.BHealFragments
namespace Go.Proofs.Ytcnfafappcbpnaa.VPts
open Go Go.RowKit Go.Proofs.Ytcnfafappcbpnaa.PHealFragments Go.Proofs.Ytcnfafappcbpnaa.BHealFragments Go.Proofs.Ytcnfafappcbpnaa.Gf Go.Proofs.Ytcnfafappcbpnaa.Bits Go.Proofs.Ytcnfafappcbpnaa.Mem Go.Proofs.YtcnfafappcbpnaaW.PrintWords Go.Proofs.YtcnfafappcbpnaaW.PrintLast
set_option linter.unusedVariables false
def Z256 : Array Value := Array.replicate 256 (.bool false)
theorem zero_256 (w : World) : (zeroValue 72).run Try.prog w = .ok (.agg Z256) w := by kernel_rfl
theorem info_byte : (Try.prog.info? 5).map (fun i => (i.zero, i.size, i.bytes)) = some (some (.int .u8 0), 1, 1) := by kernel_rfl
def Seen (f : Nat → Nat) (k : Nat) (cs : Array Value) : Prop := cs.size = 256 ∧ ∀ y, y < 256 → cs[y]? = some (.bool (hit f k y))
theorem seen0 (f : Nat → Nat) : Seen f 0 Z256 := by
  refine ⟨by simp [Z256], fun y hy => ?_⟩
  simp [Z256, hit, hy]
theorem seen_same (f : Nat → Nat) (k : Nat) (cs : Array Value) (h : Seen f k cs) (hh : hit f k (f k) = true) : Seen f (k + 1) cs := by
  refine ⟨h.1, fun y hy => ?_⟩
  rw [h.2 y hy, hit_succ]
  by_cases e : f k = y
  · subst e; simp [hh]
  · simp [e]
theorem seen_more (f : Nat → Nat) (k : Nat) (cs : Array Value) (h : Seen f k cs) (hf : f k < 256) : Seen f (k + 1) (cs.setIfInBounds (f k) (.bool true)) := by
  refine ⟨by simp [h.1], fun y hy => ?_⟩
  rw [hit_succ, Array.getElem?_setIfInBounds]
  by_cases e : f k = y
  · subst e; simp [h.1, hf]
  · rw [if_neg e, h.2 y hy]; simp [e]
theorem byte_append {P : Program} {ops : Array Oper} {rest : List Oper} {o : Oper} {a : Act} {Q : Exit → Act → World → Prop} {w0 W : World} (hP : P = Try.prog) (base : Nat) (hgd : o.guard = none) (s x : Operand)
    (ho : o.op = .call { callee := .builtin .append, args := #[s, x], argTypes := #[22, 22] }) (v : Value) (xs : List Int) (y : Int) (ok : Nat → Prop)
    (hs : a.eval s = v) (hx : a.eval x = .slice (some ⟨W.heap.size, 0, none⟩) 1 1) (HR : Kd.R (Kd.int .u8) 5 W base ok v xs) (hok : ∀ k, W.heap.size ≤ k → ok k) (HB : Below base w0 W) (hbase : base ≤ W.heap.size) (hl : xs.length ≤ 1000000)
    (h : ∀ v1 w1, Kd.R (Kd.int .u8) 5 w1 base ok v1 (xs ++ [y]) → Below base w0 w1 → W.grownBy w1 v.ownBlock → wpList P ops Q rest (a.put o.dst v1) w1) :
    wpList P ops Q (o :: rest) a (W.alloc (.cells #[.int .u8 y] 5)) := by
  subst hP
  exact Kd.R_append (Kd.int .u8) (w0 := w0) base hgd s x 22 5 (.int .u8 0) 1 ho Try.underlying22 info_byte rfl (by decide) (by decide) v xs y [.int .u8 y] ok (fun _ => False) hs hx rfl (fun _ hk => hk.elim) hok HR HB hbase (by omega) (fun v1 w1 h1 h2 h3 _ => h v1 w1 h1 h2 h3)
set_option maxRecDepth 100000 in
theorem points_good (n e : Nat) (w : World) (h1 : 1 ≤ n) (h2 : 1 ≤ e) (he : e < 9223372036854775808) :
    Calls Try.prog 21 #[.int .i64 n, .int .i64 e] w fun e' w' => ∃ v q, Stop (fun x => gp x e) n q ∧
      e' = .returned (.tuple #[v, .int .i64 (if (firsts (fun x => gp x e) q).length < n then 1 else 0)]) ∧ Kd.R (Kd.int .u8) 5 w' w.heap.size (fun _ => True) v (if (firsts (fun x => gp x e) q).length < n then [] else firsts (fun x => gp x e) q) ∧ Below w.heap.size w w' := by
  have hz := zero_256
  have t1 : decide ((n : Int) < 1) = false := by simp; omega
  have t2 : decide ((e : Int) < 1) = false := by simp; omega
  obtain ⟨f, hf⟩ : ∃ f : Nat → Nat, f = fun x => gp x e := ⟨_, rfl⟩
  rw [← hf]
  have HF := Lib.hid hf
  clear hf
  go_enter Try.func21, Try.ntmps21
  go_upto_region 6 with (fail)
  repeat (go_quiet (fail); try go_upto_region 6 with (fail))
  clear hz t1 t2
  have HB0 := Lib.hid (show Below w.heap.size w (w.alloc (.cells Z256 72)) from (Below.refl _ _).alloc (Nat.le_refl _) _)
  have HG0 := Lib.hid (show ∃ cs, Blk (w.alloc (.cells Z256 72)) w.heap.size 72 cs ∧ Seen f 0 cs from ⟨Z256, Blk.new _ _ _, seen0 f⟩)
  have HR0 := Lib.hid (Kd.R_nil (Kd.int .u8) 5 (w.alloc (.cells Z256 72)) w.heap.size (fun b => b ≠ w.heap.size))
  go_loopw [7, 8] (fun v7 v8 wr => ∃ (k : Nat), k ≤ 256 ∧ (firsts f k).length ≤ n ∧ v8 = .int .i64 (k : Nat) ∧ Hid (Kd.R (Kd.int .u8) 5 wr w.heap.size (fun b => b ≠ w.heap.size) v7 (firsts f k)) ∧ Hid (∃ cs, Blk wr w.heap.size 72 cs ∧ Seen f k cs) ∧ Hid (Below w.heap.size w wr)) (fun _ v8 _ => 256 - (intOf v8).toNat)
  case atStart => exact ⟨0, by omega, by simp [firsts], rfl, HR0, HG0, HB0⟩
  case round =>
    obtain ⟨k, hk, hle, rfl, HR, HG, HB⟩ := hrel
    clear HB0 HG0 HR0
    obtain ⟨A7, c7, rfl⟩ := Kd.R_slice HR.out
    obtain ⟨ln, hln⟩ : ∃ ln, ln = (firsts f k).length := ⟨_, rfl⟩
    rw [← hln] at hle ⊢
    have HLN := Lib.hid hln
    by_cases hlt : k < 256 ∧ ln < n
    · obtain ⟨g1, g2⟩ := hlt
      have t1 : decide ((k : Int) < 256) = true := by simp; omega
      have t2 : decide ((ln : Int) < (n : Int)) = true := by simp; omega
      have e8 : (k : Int) % 256 = (k : Int) := by omega
      have e9 : IntKind.u8.wrap (k : Int) = (k : Int) := by rw [IntKind.wrap_u8]; omega
      have hp := gp_lt k g1 e
      have HP := Lib.hid (gf_pow 200 k e g1 he (by omega))
      rw [show gp k e = f k by rw [HF.out]] at hp HP
      obtain ⟨p, hpp⟩ : ∃ p, p = f k := ⟨_, rfl⟩
      rw [← hpp] at hp HP
      obtain ⟨cs, hb, hs⟩ := HG.out
      have hc := (hb.cell p).trans (hs.2 p hp)
      have HPP := Lib.hid hpp
      have HBL := Lib.hid hb
      have HSN := Lib.hid hs
      have p0 : (0 : Int) ≤ (p : Int) := by omega
      have p1 : (p : Int) < 256 := by omega
      have p2 : ((p : Int)).toNat = p := by omega
      clear hln hpp hb hs HG
      by_cases hh : hit f k p = true
      · rw [hh] at hc
        go_wp2_with ((go_at_call 43; (with_reducible refine (gf_Pow.calls 200 _ _ _ _ HP.out).mono ?_); rintro e w' ⟨rfl, ⟨nd, rfl⟩⟩))
        have ef : firsts f (k + 1) = firsts f k := by rw [firsts_succ, if_pos (by rw [← HPP.out]; exact hh)]
        go_roundw
        case rel => exact ⟨k + 1, by omega, by rw [ef, ← HLN.out]; exact hle, by go_num, by rw [ef, HLN.out]; exact Lib.hid (Kd.R_drewN HR.out _), Lib.hid ⟨cs, HBL.out.drewN _, seen_same f k cs HSN.out (by rw [← HPP.out]; exact hh)⟩, Lib.hid (pw_below_drewN HB.out _)⟩
        case measure => simp [intOf]; omega
      · rw [Bool.eq_false_iff.mpr hh] at hc
        have ef : firsts f (k + 1) = firsts f k ++ [(k : Int)] := by rw [firsts_succ, if_neg (by rw [← HPP.out]; exact hh)]
        have hfz := HBL.out.frozen p
        have HEF := Lib.hid ef
        clear ef
        have hrlt := Kd.R_away HR.out (g := w.heap.size) (fun b hb => hb)
        have HAW := Lib.hid hrlt
        have HRS := Lib.hid (fun m => Kd.R_far (Kd.R_drewN HR.out m) (p := ⟨w.heap.size, p, none⟩) (fun b hb => hb) (.bool true))
        have HBS := Lib.hid (fun m => (pw_below_drewN HB.out m).setCell (p := ⟨w.heap.size, p, none⟩) (Nat.le_refl _) (.bool true))
        have HGS := Lib.hid (fun m => (HBL.out.drewN m).set_ p (.bool true))
        have HSZ := Lib.hid HB.out.size
        have HOK := Lib.hid (show ∀ m b, ((wr.drewN m).setCell ⟨w.heap.size, p, none⟩ (.bool true)).heap.size ≤ b → b ≠ w.heap.size from fun m b hb => by
          have h3 : wr.heap.size ≤ b := by simpa using hb
          have := HBL.out.lt
          omega)
        clear hrlt
        go_wp2_with (first
          | (go_at_call 43; (with_reducible refine (gf_Pow.calls 200 _ _ _ _ HP.out).mono ?_); rintro e w' ⟨rfl, ⟨nd, rfl⟩⟩)
          | (at_builtin; refine byte_append (w0 := w) rfl w.heap.size rfl _ _ rfl _ (firsts f k) (k : Int) (fun b => b ≠ w.heap.size) rfl ?hx ?hR ?hok ?hB ?hba ?hl ?_; (case hx => first | rfl | (go_simp; done) | simp [go_sem]); (case hR => rw [HLN.out]; exact HRS.out _); (case hok => exact HOK.out _); (case hB => exact HBS.out _); (case hba => simpa using HSZ.out); (case hl => have := len_le f k; omega); intro v1 w1 h1 h2 h3; have HR1 := Lib.hid h1; have HB1 := Lib.hid h2; have HG1 := Lib.hid ((HGS.out _).grown h3 (by first | exact HAW.out | (rw [HLN.out]; exact HAW.out) | (rw [HLN.out] at *; exact HAW.out))); clear h1 h2 h3))
        go_roundw
        case rel => exact ⟨k + 1, by omega, by rw [HEF.out]; simp; rw [← HLN.out]; omega, by go_num, by rw [HEF.out]; exact HR1, Lib.hid ⟨_, HG1.out, by rw [HPP.out]; exact seen_more f k cs HSN.out (by rw [← HPP.out]; exact hp)⟩, HB1⟩
        case measure => simp [intOf]; omega
    · by_cases g1 : k < 256
      · have t1 : decide ((k : Int) < 256) = true := by simp; omega
        have t2 : decide ((ln : Int) < (n : Int)) = false := by simp; omega
        have hst : Stop f n k := ⟨hk, by rw [← HLN.out]; exact hle, .inr (by rw [← HLN.out]; omega)⟩
        have HST := Lib.hid hst
        have g3 : ¬ ln < n := by omega
        clear hst hlt
        go_wp2
        refine bodyPost_ret (v := .tuple #[.slice A7 ln c7, .int .i64 0]) (by simp [results, Try.results21, go_sem]) rfl ⟨.slice A7 ln c7, k, HST.out, ?_, ?_, ?_⟩
        · rw [← HLN.out, if_neg (by simpa using t2)]
        · rw [← HLN.out, if_neg (by simpa using t2), HLN.out]; exact Kd.R_mono HR.out (fun _ _ => trivial)
        · exact HB.out
      · have t1 : decide ((k : Int) < 256) = false := by simp; omega
        obtain rfl : k = 256 := by omega
        by_cases g2 : ln < n
        · have t2 : decide ((ln : Int) < (n : Int)) = true := by simp; omega
          have HST := Lib.hid (show Stop f n 256 from ⟨hk, by rw [← HLN.out]; exact hle, .inl rfl⟩)
          clear hlt g1
          go_wp2
          refine bodyPost_ret (v := .tuple #[.slice none 0 0, .int .i64 1]) (by simp [results, Try.results21, go_sem]) rfl ⟨.slice none 0 0, 256, HST.out, ?_, ?_, ?_⟩
          · rw [← HLN.out, if_pos g2]
          · rw [← HLN.out, if_pos g2]; exact Kd.R_nil _ _ _ _ _
          · exact HB.out
        · have t2 : decide ((ln : Int) < (n : Int)) = false := by simp; omega
          have HST := Lib.hid (show Stop f n 256 from ⟨hk, by rw [← HLN.out]; exact hle, .inl rfl⟩)
          have g3 : ¬ ln < n := by omega
          clear hlt g1
          go_wp2
          refine bodyPost_ret (v := .tuple #[.slice A7 ln c7, .int .i64 0]) (by simp [results, Try.results21, go_sem]) rfl ⟨.slice A7 ln c7, 256, HST.out, ?_, ?_, ?_⟩
          · rw [← HLN.out, if_neg g2]
          · rw [← HLN.out, if_neg g2, HLN.out]; exact Kd.R_mono HR.out (fun _ _ => trivial)
          · exact HB.out
end Go.Proofs.Ytcnfafappcbpnaa.VPts
namespace Go.Proofs.Ytcnfafappcbpnaa.Str
open Go Go.RowKit Go.Proofs.Ytcnfafappcbpnaa.PHealFragments Go.Proofs.Ytcnfafappcbpnaa.BHealFragments Go.Proofs.Ytcnfafappcbpnaa.Gf Go.Proofs.Ytcnfafappcbpnaa.Bits Go.Proofs.Ytcnfafappcbpnaa.Mem Go.Proofs.Ytcnfafappcbpnaa.VPts Go.Proofs.YtcnfafappcbpnaaW.PrintWords Go.Proofs.YtcnfafappcbpnaaW.PrintLast
set_option linter.unusedVariables false
theorem many1 : 24 ≤ (firsts (fun x => gp x 1) 40).length := by decide +kernel
theorem many2 : 24 ≤ (firsts (fun x => gp x 2) 40).length := by decide +kernel
theorem many3 : 24 ≤ (firsts (fun x => gp x 3) 40).length := by decide +kernel
theorem many4 : 24 ≤ (firsts (fun x => gp x 4) 40).length := by decide +kernel
theorem many5 : 24 ≤ (firsts (fun x => gp x 5) 40).length := by decide +kernel
theorem many6 : 24 ≤ (firsts (fun x => gp x 6) 40).length := by decide +kernel
theorem many7 : 24 ≤ (firsts (fun x => gp x 7) 40).length := by decide +kernel
theorem many (e : Nat) (h1 : 1 ≤ e) (h7 : e ≤ 7) : 24 ≤ (firsts (fun x => gp x e) 40).length := by
  rcases (show e = 1 ∨ e = 2 ∨ e = 3 ∨ e = 4 ∨ e = 5 ∨ e = 6 ∨ e = 7 by omega) with rfl | rfl | rfl | rfl | rfl | rfl | rfl
  · exact many1
  · exact many2
  · exact many3
  · exact many4
  · exact many5
  · exact many6
  · exact many7
theorem stop_len (f : Nat → Nat) (n q : Nat) (h : Stop f n q) (h24 : 24 ≤ (firsts f 40).length) (hn : n ≤ 24) : (firsts f q).length = n := by
  obtain ⟨h1, h2, h3 | h3⟩ := h
  · subst h3
    have hp := (pre f 40 216).length_le
    have hp : (firsts f 40).length ≤ (firsts f 256).length := hp
    omega
  · exact h3
def IsCode (w : World) (v : Value) (n k : Nat) : Prop := ∃ b A c, v = .pointer (some ⟨b, 0, none⟩) ∧ Blk w b 53 #[.int .i64 n, .int .i64 k, .slice A n c]
theorem IsCode.below {w w' : World} {v : Value} {n k : Nat} (h : IsCode w v n k) (hb : Below w.heap.size w w') : IsCode w' v n k := by
  obtain ⟨b, A, c, e, h⟩ := h
  exact ⟨b, A, c, e, h.below hb h.lt⟩
theorem below_of_drewN {w w' : World} {n : Nat} (h : Below (w.drewN n).heap.size (w.drewN n) w') : Below w.heap.size w w' := ⟨h.os, h.tape, h.output, h.size, h.block⟩
set_option maxRecDepth 100000 in
theorem k_any (v : Value) (n k : Nat) (w : World) (h : IsCode w v n k) :
    Calls Try.prog 28 #[v] w fun e w' => e = .returned (.int .i64 k) ∧ w' = w := by
  obtain ⟨b, A, c, rfl, h⟩ := h
  have h1 := (h.cell 1).trans rfl
  simp at h1
  go_enter Try.func28, Try.ntmps28
  go_wp2
  go_ret
  exact ⟨rfl, rfl⟩
set_option maxRecDepth 100000 in
theorem parts_any (v : Value) (n k : Nat) (w : World) (h : IsCode w v n k) (h1 : 1 ≤ k) (h2 : k ≤ 100) :
    Calls Try.prog 23 #[v] w fun e w' => e = .returned (.int .i64 ((k - 1 : Nat) : Int)) ∧ w' = w := by
  have H := Lib.hid h
  have e1 : IntKind.i64.wrap ((k : Int) - 1) = ((k - 1 : Nat) : Int) := by rw [IntWalk.i64_in _ (by omega)]; omega
  obtain ⟨q, hq⟩ : ∃ q, q = k - 1 := ⟨_, rfl⟩
  rw [← hq] at e1 ⊢
  have e2 : max (q : Int) 0 = (q : Int) := by omega
  clear h hq h1 h2
  go_enter Try.func23, Try.ntmps23
  go_wp2_with (go_at_call 28; (with_reducible refine (k_any _ _ _ _ H.out).mono ?_); rintro e w1 ⟨rfl, rfl⟩)
  go_ret
  exact ⟨rfl, rfl⟩
set_option maxRecDepth 100000 in
theorem symbols_any (v : Value) (n k s : Nat) (w : World) (h : IsCode w v n k) (h1 : 1 ≤ k) (h2 : k ≤ 100) (hs : k * (k - 1) = s) :
    Calls Try.prog 41 #[v] w fun e w' => e = .returned (.int .i64 s) ∧ w' = w := by
  have HP := Lib.hid (parts_any v n k w h h1 h2)
  have H := Lib.hid h
  have hle : k * (k - 1) ≤ 100 * 100 := Nat.mul_le_mul h2 (by omega)
  have e1 : IntKind.i64.wrap ((k : Int) * ((k - 1 : Nat) : Int)) = (s : Int) := by
    rw [← Int.natCast_mul, IntWalk.i64_in _ (by omega), hs]
  obtain ⟨q, hq⟩ : ∃ q, q = k - 1 := ⟨_, rfl⟩
  rw [← hq] at e1 HP
  clear h hq hs hle h1 h2
  go_enter Try.func41, Try.ntmps41
  go_wp2_with (first
    | (go_at_call 28; (with_reducible refine (k_any _ _ _ _ H.out).mono ?_); rintro e w1 ⟨rfl, rfl⟩)
    | (go_at_call 23; (with_reducible refine HP.out.mono ?_); rintro e w1 ⟨rfl, rfl⟩))
  go_ret
  exact ⟨rfl, rfl⟩
end Go.Proofs.Ytcnfafappcbpnaa.Str
namespace Go.Proofs.Ytcnfafappcbpnaa.Str
open Go Go.RowKit Go.Proofs.Ytcnfafappcbpnaa.PHealFragments Go.Proofs.Ytcnfafappcbpnaa.BHealFragments Go.Proofs.Ytcnfafappcbpnaa.BHealFragments Go.Proofs.Ytcnfafappcbpnaa.Gf Go.Proofs.Ytcnfafappcbpnaa.Bits Go.Proofs.Ytcnfafappcbpnaa.Mem Go.Proofs.Ytcnfafappcbpnaa.VPts Go.Proofs.Ytcnfafappcbpnaa.Rws Go.Proofs.YtcnfafappcbpnaaW.PrintWords Go.Proofs.YtcnfafappcbpnaaW.PrintLast
set_option linter.unusedVariables false
def ptsL (n e : Nat) : List Int := (firsts (fun x => gp x e) 40).take n
theorem ptsL_bytes (n e : Nat) : ∀ x ∈ ptsL n e, 0 ≤ x ∧ x < 256 := fun x hx => firsts_bytes _ 40 (by decide) x (List.mem_of_mem_take hx)
theorem stop_pts (n e q : Nat) (h : Stop (fun x => gp x e) n q) (h1 : 1 ≤ e) (h7 : e ≤ 7) (hn : n ≤ 24) : firsts (fun x => gp x e) q = ptsL n e := by
  have h24 := many e h1 h7
  have hl := stop_len _ _ _ h h24 hn
  unfold ptsL
  rcases Nat.le_total q 40 with hq | hq
  · have hp := pre (fun x => gp x e) q (40 - q)
    rw [show q + (40 - q) = 40 by omega] at hp
    have := List.prefix_iff_eq_take.1 hp
    rw [hl] at this
    exact this
  · have hp := pre (fun x => gp x e) 40 (q - 40)
    rw [show 40 + (q - 40) = q by omega] at hp
    have hle := hp.length_le
    have he := List.IsPrefix.eq_of_length_le hp (by omega)
    rw [he, List.take_of_length_le (by omega)]
def IsCodeP (w : World) (v : Value) (n k : Nat) : Prop := ∃ b A c, v = .pointer (some ⟨b, 0, none⟩) ∧ Blk w b 53 #[.int .i64 n, .int .i64 k, .slice A n c] ∧ n ≤ c ∧ (Kd.int .u8).C w A n (ptsL n (k - 1))
theorem IsCodeP.below {w w' : World} {v : Value} {n k : Nat} (h : IsCodeP w v n k) (hb : Below w.heap.size w w') : IsCodeP w' v n k := by
  obtain ⟨b, A, c, e, h, hc, hp⟩ := h
  exact ⟨b, A, c, e, h.below hb h.lt, hc, Kd.C_below hp hb⟩
theorem IsCodeP.code {w : World} {v : Value} {n k : Nat} (h : IsCodeP w v n k) : IsCode w v n k := by
  obtain ⟨b, A, c, e, h, _⟩ := h
  exact ⟨b, A, c, e, h⟩
theorem points_pts (n e : Nat) (w : World) (h1 : 1 ≤ n) (h4 : n ≤ 24) (h2 : 1 ≤ e) (h3 : e ≤ 7) :
    Calls Try.prog 21 #[.int .i64 n, .int .i64 e] w fun e' w' => ∃ A c, e' = .returned (.tuple #[.slice A n c, .int .i64 0]) ∧ n ≤ c ∧ (Kd.int .u8).C w' A n (ptsL n e) ∧ Below w.heap.size w w' := by
  refine (points_good n e w h1 h2 (by omega)).mono ?_
  rintro e' w1 ⟨v, q1, hq1, rfl, hr, hb⟩
  have hl := stop_len _ _ _ hq1 (many e h2 h3) h4
  have hn : ¬ (firsts (fun x => gp x e) q1).length < n := by omega
  rw [if_neg hn] at hr
  obtain ⟨A, c, rfl, hc, hC⟩ := Kd.R_reads hr
  rw [if_neg hn]
  have e2 : Value.slice A (firsts (fun x => gp x e) q1).length c = Value.slice A n c := by rw [hl]
  rw [e2]
  rw [hl, stop_pts n e q1 hq1 h2 h3 h4] at hC
  exact ⟨A, c, rfl, by omega, hC, hb⟩
set_option maxRecDepth 100000 in
theorem new_codeP (n k : Nat) (w : World) (h1 : 2 ≤ k) (h2 : k ≤ 8) (h3 : 2 * k - 1 ≤ n) (h4 : n ≤ 24) :
    Calls Try.prog 9 #[.int .i64 n, .int .i64 k] w fun e w' => ∃ v, e = .returned (.tuple #[v, .int .i64 0]) ∧ IsCodeP w' v n k ∧ Below w.heap.size w w' := by
  have e1 : IntKind.i64.wrap (2 * (k : Int)) = 2 * (k : Int) := IntWalk.i64_in _ (by omega)
  have e2 : IntKind.i64.wrap (2 * (k : Int) - 1) = 2 * (k : Int) - 1 := IntWalk.i64_in _ (by omega)
  have e3 : IntKind.i64.wrap ((k : Int) - 1) = ((k - 1 : Nat) : Int) := by rw [IntWalk.i64_in _ (by omega)]; omega
  have PG := Lib.hid (fun W => points_pts n (k - 1) W (by omega) (by omega) (by omega) (by omega))
  have t1 : ¬ (k : Int) < 2 := by omega
  have t2 : ¬ (8 : Int) < (k : Int) := by omega
  have t3 : ¬ (n : Int) < 2 * (k : Int) - 1 := by omega
  have t4 : ¬ (24 : Int) < (n : Int) := by omega
  obtain ⟨q, hq⟩ : ∃ q, q = k - 1 := ⟨_, rfl⟩
  have HQ := Lib.hid hq
  rw [← hq] at e3 PG
  clear hq h1 h2 h3 h4
  go_enter Try.func9, Try.ntmps9
  go_wp2_with (go_at_call 21; (with_reducible refine (PG.out _).mono ?_); rintro e w1 ⟨A5, c5, rfl, hc5, hr, hb⟩; have HB := Lib.hid hb; have HR := Lib.hid hr; have HC := Lib.hid hc5; clear hr hb hc5)
  refine bodyPost_ret (v := .tuple #[.pointer (some ⟨w1.heap.size, 0, none⟩), .int .i64 0]) (by simp [results, Try.results9, go_sem]) rfl ⟨_, rfl, ⟨_, _, _, rfl, Blk.new _ _ _, HC.out, ?_⟩, HB.out.alloc HB.out.size _⟩
  rw [← HQ.out]
  exact Kd.C_below HR.out ((Below.refl _ _).alloc (Nat.le_refl _) _)
def ptN (n k slot : Nat) : Nat := ((ptsL n (k - 1)).getD slot 0).toNat
theorem ptN_lt (n k slot : Nat) : ptN n k slot < 256 := by
  unfold ptN
  rcases Nat.lt_or_ge slot (ptsL n (k - 1)).length with h | h
  · have := ptsL_bytes n (k - 1) _ (List.getElem_mem h)
    rw [List.getD_eq_getElem?_getD, List.getElem?_eq_getElem h]
    simp only [Option.getD_some]
    omega
  · rw [List.getD_eq_getElem?_getD, List.getElem?_eq_none h]; decide
theorem ptN_eq (n k slot : Nat) : (ptsL n (k - 1)).getD slot 0 = (ptN n k slot : Int) := by
  unfold ptN
  rcases Nat.lt_or_ge slot (ptsL n (k - 1)).length with h | h
  · have := ptsL_bytes n (k - 1) _ (List.getElem_mem h)
    rw [List.getD_eq_getElem?_getD, List.getElem?_eq_getElem h]
    simp only [Option.getD_some]
    omega
  · rw [List.getD_eq_getElem?_getD, List.getElem?_eq_none h]; rfl
set_option maxRecDepth 100000 in
set_option maxHeartbeats 1000000 in
theorem row_any (v : Value) (n k slot : Nat) (w : World) (hc : IsCodeP w v n k) (k1 : 2 ≤ k) (k2 : k ≤ 8) (n2 : n ≤ 24) (hs : slot < n) :
    Calls Try.prog 32 #[v, .int .i64 slot] w fun e w' => ∃ A c, e = .returned (.slice A (2 * k - 2) c) ∧ Kd.R (Kd.int .u8) 5 w' w.heap.size (fun _ => True) (.slice A (2 * k - 2) c) (pows (ptN n k slot) (2 * k - 2)) ∧ Below w.heap.size w w' := by
  obtain ⟨b, A, c, rfl, hb, hnc, hP⟩ := hc
  have y0 : w.cell? ⟨b, 0, none⟩ = some (.int .i64 n) := (hb.cell 0).trans rfl
  have y1 : w.cell? ⟨b, 1, none⟩ = some (.int .i64 k) := (hb.cell 1).trans rfl
  have y2 : w.cell? ⟨b, 2, none⟩ = some (.slice A n c) := (hb.cell 2).trans rfl
  obtain ⟨ad, cc, rfl, _, hK, hcell⟩ := Kd.C_get hP 0 (slot : Int) (by omega) (by omega)
  have y3 : w.cell? (ad.add slot) = some (.int .u8 (ptN n k slot)) := by
    have hK' : cc = [.int .u8 ((ptsL n (k - 1)).getD slot 0)] := hK
    subst hK'
    have := hcell 0 _ rfl
    rw [ptN_eq] at this
    simpa [Kd.int, Kd.scalar] using this
  obtain ⟨x, hx⟩ : ∃ x, x = ptN n k slot := ⟨_, rfl⟩
  have hx2 : x < 256 := by rw [hx]; exact ptN_lt n k slot
  rw [← hx] at y3 ⊢
  obtain ⟨m, hm⟩ : ∃ m, m = 2 * k - 2 := ⟨_, rfl⟩
  have RC := Lib.hid (fun W => row_calls x hx2 (m : Int) (by omega) W)
  have e1 : IntKind.i64.wrap (2 * (k : Int)) = 2 * (k : Int) := IntWalk.i64_in _ (by omega)
  have e2 : IntKind.i64.wrap (2 * (k : Int) - 2) = (m : Int) := by rw [IntWalk.i64_in _ (by omega)]; omega
  have e3 : ¬ (n : Int) ≤ (slot : Int) := by omega
  have e4 : decide ((slot : Int) < 0) = false := by simp
  have e5 : (slot : Int) < (n : Int) := by omega
  rw [← hm]
  clear hb hP hK hcell hx hx2 hm k1 k2 n2 hs hnc
  go_enter Try.func32, Try.ntmps32
  go_wp2
  refine wp_region_still_tail 13 (by kernel_rfl) (by kernel_rfl) ?_
  change wpStill _ _ _ (fun a' => wpList _ _ _ _ a' _) _ _
  simp only [List.take_succ_cons, List.take_zero, List.drop_succ_cons, List.drop_zero]
  repeat still_step
  refine wpStill_nil ?_
  go_wp2_with (go_at_call 48; (with_reducible refine (RC.out _).mono ?_); rintro e w1 ⟨A5, c5, rfl, hr, hb⟩; have HR := Lib.hid hr; have HB := Lib.hid hb; clear hr hb)
  go_ret
  exact ⟨_, _, rfl, by simpa using HR.out, (Below.refl w.heap.size w).drew.trans HB.out⟩
def placeN (a r c : Nat) : Nat := (if r < a then 0 else a * (a + 1) / 2) + min (if r < a then r else r - a) c * a - min (if r < a then r else r - a) c * (min (if r < a then r else r - a) c - 1) / 2 + max (if r < a then r else r - a) c - min (if r < a then r else r - a) c
theorem ret_int {k : IntKind} {a b : Int} (h : a = b) : Ending.returned (.int k a) = Ending.returned (.int k b) := by rw [h]
theorem tri_le (i : Nat) (h : i ≤ 7) : i * (i - 1) ≤ 42 := by
  have h2 := Nat.mul_le_mul h (show i - 1 ≤ 6 by omega)
  omega
theorem tri_int (i : Nat) : (i : Int) * ((i : Int) - 1) = ((i * (i - 1) : Nat) : Int) := by
  cases i with
  | zero => simp
  | succ i => rw [show ((i + 1 : Nat) : Int) - 1 = (i : Int) by omega]; simp
set_option maxRecDepth 100000 in
set_option maxHeartbeats 1000000 in
theorem place_any (v : Value) (n k r c : Nat) (w : World) (hc : IsCode w v n k) (k1 : 2 ≤ k) (k2 : k ≤ 8) (hr : r < 2 * (k - 1)) (hcl : c < k - 1) :
    Calls Try.prog 62 #[v, .int .i64 r, .int .i64 c] w fun e w' => e = .returned (.int .i64 (placeN (k - 1) r c)) ∧ w' = w := by
  obtain ⟨b, A, c0, rfl, hb⟩ := hc
  have y1 : w.cell? ⟨b, 1, none⟩ = some (.int .i64 k) := (hb.cell 1).trans rfl
  obtain ⟨a, ha⟩ : ∃ a, a = k - 1 := ⟨_, rfl⟩
  rw [← ha] at hr hcl ⊢
  have e0 : IntKind.i64.wrap ((k : Int) - 1) = (a : Int) := by rw [IntWalk.i64_in _ (by omega)]; omega
  have a7 : a ≤ 7 := by omega
  clear hb ha k1 k2
  by_cases h : r < a
  · obtain ⟨B, hB⟩ : ∃ B, B = 0 := ⟨_, rfl⟩
    have lB : B ≤ 28 := by omega
    have HBB := Lib.hid hB
    have h1 : ¬ (a : Int) ≤ (r : Int) := by omega
    rcases Nat.lt_trichotomy r c with hm | hm | hm
    · obtain ⟨i, hi⟩ : ∃ i, i = r := ⟨_, rfl⟩
      obtain ⟨j, hj⟩ : ∃ j, j = c := ⟨_, rfl⟩
      have G : placeN a r c = B + i * a - i * (i - 1) / 2 + j - i := by unfold placeN; rw [if_pos h, if_pos h, Nat.min_eq_left (by omega), Nat.max_eq_right (by omega), hi, hj, hB]
      have li : i ≤ 7 := by omega
      have lj : j ≤ 7 := by omega
      obtain ⟨q, hq⟩ : ∃ q, q = i * a := ⟨_, rfl⟩
      obtain ⟨t, ht⟩ : ∃ t, t = i * (i - 1) := ⟨_, rfl⟩
      have lq : q ≤ 49 := by rw [hq]; exact Nat.mul_le_mul li a7
      have lt : t ≤ 42 := by rw [ht]; exact tri_le i li
      have hq2 : t / 2 ≤ B + q := by
        have : i * (i - 1) ≤ i * a := Nat.mul_le_mul_left i (by omega)
        omega
      have e1 : IntKind.i64.wrap ((i : Int) * (a : Int)) = (q : Int) := by rw [← Int.natCast_mul, ← hq, IntWalk.i64_in _ (by omega)]
      have e2 : IntKind.i64.wrap ((i : Int) - 1) = (i : Int) - 1 := IntWalk.i64_in _ (by omega)
      have e3 : IntKind.i64.wrap ((i : Int) * ((i : Int) - 1)) = (t : Int) := by rw [tri_int, ← ht, IntWalk.i64_in _ (by omega)]
      have e7 : IntKind.i64.wrap ((t : Int).tdiv 2) = ((t / 2 : Nat) : Int) := by rw [Int.tdiv_eq_ediv_of_nonneg (by omega), IntWalk.i64_in _ (by omega)]; omega
      have e8 : IntKind.i64.wrap ((B : Int) + (q : Int)) = (B : Int) + (q : Int) := IntWalk.i64_in _ (by omega)
      rw [← hq, ← ht] at G
      have HG := Lib.hid G
      clear hq ht G
      subst hi hj hB
      have h2 : (i : Int) < (j : Int) := by omega
      go_enter Try.func62, Try.ntmps62
      go_wp2
      go_ret
      exact ⟨ret_int (by rw [HG.out]; have := HBB.out; omega), rfl⟩
    · obtain ⟨i, hi⟩ : ∃ i, i = r := ⟨_, rfl⟩
      obtain ⟨j, hj⟩ : ∃ j, j = c := ⟨_, rfl⟩
      have G : placeN a r c = B + i * a - i * (i - 1) / 2 + j - i := by unfold placeN; rw [if_pos h, if_pos h, Nat.min_eq_left (by omega), Nat.max_eq_right (by omega), hi, hj, hB]
      have li : i ≤ 7 := by omega
      have lj : j ≤ 7 := by omega
      obtain ⟨q, hq⟩ : ∃ q, q = i * a := ⟨_, rfl⟩
      obtain ⟨t, ht⟩ : ∃ t, t = i * (i - 1) := ⟨_, rfl⟩
      have lq : q ≤ 49 := by rw [hq]; exact Nat.mul_le_mul li a7
      have lt : t ≤ 42 := by rw [ht]; exact tri_le i li
      have hq2 : t / 2 ≤ B + q := by
        have : i * (i - 1) ≤ i * a := Nat.mul_le_mul_left i (by omega)
        omega
      have e1 : IntKind.i64.wrap ((i : Int) * (a : Int)) = (q : Int) := by rw [← Int.natCast_mul, ← hq, IntWalk.i64_in _ (by omega)]
      have e2 : IntKind.i64.wrap ((i : Int) - 1) = (i : Int) - 1 := IntWalk.i64_in _ (by omega)
      have e3 : IntKind.i64.wrap ((i : Int) * ((i : Int) - 1)) = (t : Int) := by rw [tri_int, ← ht, IntWalk.i64_in _ (by omega)]
      have e7 : IntKind.i64.wrap ((t : Int).tdiv 2) = ((t / 2 : Nat) : Int) := by rw [Int.tdiv_eq_ediv_of_nonneg (by omega), IntWalk.i64_in _ (by omega)]; omega
      have e8 : IntKind.i64.wrap ((B : Int) + (q : Int)) = (B : Int) + (q : Int) := IntWalk.i64_in _ (by omega)
      rw [← hq, ← ht] at G
      have HG := Lib.hid G
      clear hq ht G
      subst hi hj hB
      subst hm
      go_enter Try.func62, Try.ntmps62
      go_wp2
      go_ret
      exact ⟨ret_int (by rw [HG.out]; have := HBB.out; omega), rfl⟩
    · obtain ⟨i, hi⟩ : ∃ i, i = c := ⟨_, rfl⟩
      obtain ⟨j, hj⟩ : ∃ j, j = r := ⟨_, rfl⟩
      have G : placeN a r c = B + i * a - i * (i - 1) / 2 + j - i := by unfold placeN; rw [if_pos h, if_pos h, Nat.min_eq_right (by omega), Nat.max_eq_left (by omega), hi, hj, hB]
      have li : i ≤ 7 := by omega
      have lj : j ≤ 7 := by omega
      obtain ⟨q, hq⟩ : ∃ q, q = i * a := ⟨_, rfl⟩
      obtain ⟨t, ht⟩ : ∃ t, t = i * (i - 1) := ⟨_, rfl⟩
      have lq : q ≤ 49 := by rw [hq]; exact Nat.mul_le_mul li a7
      have lt : t ≤ 42 := by rw [ht]; exact tri_le i li
      have hq2 : t / 2 ≤ B + q := by
        have : i * (i - 1) ≤ i * a := Nat.mul_le_mul_left i (by omega)
        omega
      have e1 : IntKind.i64.wrap ((i : Int) * (a : Int)) = (q : Int) := by rw [← Int.natCast_mul, ← hq, IntWalk.i64_in _ (by omega)]
      have e2 : IntKind.i64.wrap ((i : Int) - 1) = (i : Int) - 1 := IntWalk.i64_in _ (by omega)
      have e3 : IntKind.i64.wrap ((i : Int) * ((i : Int) - 1)) = (t : Int) := by rw [tri_int, ← ht, IntWalk.i64_in _ (by omega)]
      have e7 : IntKind.i64.wrap ((t : Int).tdiv 2) = ((t / 2 : Nat) : Int) := by rw [Int.tdiv_eq_ediv_of_nonneg (by omega), IntWalk.i64_in _ (by omega)]; omega
      have e8 : IntKind.i64.wrap ((B : Int) + (q : Int)) = (B : Int) + (q : Int) := IntWalk.i64_in _ (by omega)
      rw [← hq, ← ht] at G
      have HG := Lib.hid G
      clear hq ht G
      subst hi hj hB
      have h2 : (i : Int) < (j : Int) := by omega
      go_enter Try.func62, Try.ntmps62
      go_wp2
      go_ret
      exact ⟨ret_int (by rw [HG.out]; have := HBB.out; omega), rfl⟩
  · have p1 : a * (a + 1) ≤ 56 := by have := Nat.mul_le_mul a7 (show a + 1 ≤ 8 by omega); omega
    obtain ⟨p, hp⟩ : ∃ p, p = a * (a + 1) := ⟨_, rfl⟩
    rw [← hp] at p1
    obtain ⟨B, hB⟩ : ∃ B, B = p / 2 := ⟨_, rfl⟩
    have lB : B ≤ 28 := by omega
    have HBB := Lib.hid hB
    have f4 : IntKind.i64.wrap ((a : Int) * ((a : Int) + 1)) = (p : Int) := by rw [show (a : Int) * ((a : Int) + 1) = ((a * (a + 1) : Nat) : Int) by rw [Int.natCast_mul, Int.natCast_add]; rfl, ← hp, IntWalk.i64_in _ (by omega)]
    have f5 : IntKind.i64.wrap ((a : Int) + 1) = (a : Int) + 1 := IntWalk.i64_in _ (by omega)
    have f6 : IntKind.i64.wrap ((p : Int).tdiv 2) = (B : Int) := by rw [Int.tdiv_eq_ediv_of_nonneg (by omega), IntWalk.i64_in _ (by omega)]; omega
    have h1 : (a : Int) ≤ (r : Int) := by omega
    obtain ⟨r', hr'⟩ : ∃ r', r' = r - a := ⟨_, rfl⟩
    have f7 : IntKind.i64.wrap ((r : Int) - (a : Int)) = (r' : Int) := by rw [IntWalk.i64_in _ (by omega)]; omega
    rcases Nat.lt_trichotomy r' c with hm | hm | hm
    · obtain ⟨i, hi⟩ : ∃ i, i = r' := ⟨_, rfl⟩
      obtain ⟨j, hj⟩ : ∃ j, j = c := ⟨_, rfl⟩
      have G : placeN a r c = B + i * a - i * (i - 1) / 2 + j - i := by unfold placeN; rw [if_neg h, if_neg h, ← hr', Nat.min_eq_left (by omega), Nat.max_eq_right (by omega), hi, hj, hB, hp]
      have li : i ≤ 7 := by omega
      have lj : j ≤ 7 := by omega
      obtain ⟨q, hq⟩ : ∃ q, q = i * a := ⟨_, rfl⟩
      obtain ⟨t, ht⟩ : ∃ t, t = i * (i - 1) := ⟨_, rfl⟩
      have lq : q ≤ 49 := by rw [hq]; exact Nat.mul_le_mul li a7
      have lt : t ≤ 42 := by rw [ht]; exact tri_le i li
      have hq2 : t / 2 ≤ B + q := by
        have : i * (i - 1) ≤ i * a := Nat.mul_le_mul_left i (by omega)
        omega
      have e1 : IntKind.i64.wrap ((i : Int) * (a : Int)) = (q : Int) := by rw [← Int.natCast_mul, ← hq, IntWalk.i64_in _ (by omega)]
      have e2 : IntKind.i64.wrap ((i : Int) - 1) = (i : Int) - 1 := IntWalk.i64_in _ (by omega)
      have e3 : IntKind.i64.wrap ((i : Int) * ((i : Int) - 1)) = (t : Int) := by rw [tri_int, ← ht, IntWalk.i64_in _ (by omega)]
      have e7 : IntKind.i64.wrap ((t : Int).tdiv 2) = ((t / 2 : Nat) : Int) := by rw [Int.tdiv_eq_ediv_of_nonneg (by omega), IntWalk.i64_in _ (by omega)]; omega
      have e8 : IntKind.i64.wrap ((B : Int) + (q : Int)) = (B : Int) + (q : Int) := IntWalk.i64_in _ (by omega)
      rw [← hq, ← ht] at G
      have HG := Lib.hid G
      clear hq ht G
      have lr : r' < a := by omega
      clear hr' hB hp
      subst hi hj
      have h2 : (i : Int) < (j : Int) := by omega
      go_enter Try.func62, Try.ntmps62
      go_wp2
      go_ret
      exact ⟨ret_int (by rw [HG.out]; have := HBB.out; omega), rfl⟩
    · obtain ⟨i, hi⟩ : ∃ i, i = r' := ⟨_, rfl⟩
      obtain ⟨j, hj⟩ : ∃ j, j = c := ⟨_, rfl⟩
      have G : placeN a r c = B + i * a - i * (i - 1) / 2 + j - i := by unfold placeN; rw [if_neg h, if_neg h, ← hr', Nat.min_eq_left (by omega), Nat.max_eq_right (by omega), hi, hj, hB, hp]
      have li : i ≤ 7 := by omega
      have lj : j ≤ 7 := by omega
      obtain ⟨q, hq⟩ : ∃ q, q = i * a := ⟨_, rfl⟩
      obtain ⟨t, ht⟩ : ∃ t, t = i * (i - 1) := ⟨_, rfl⟩
      have lq : q ≤ 49 := by rw [hq]; exact Nat.mul_le_mul li a7
      have lt : t ≤ 42 := by rw [ht]; exact tri_le i li
      have hq2 : t / 2 ≤ B + q := by
        have : i * (i - 1) ≤ i * a := Nat.mul_le_mul_left i (by omega)
        omega
      have e1 : IntKind.i64.wrap ((i : Int) * (a : Int)) = (q : Int) := by rw [← Int.natCast_mul, ← hq, IntWalk.i64_in _ (by omega)]
      have e2 : IntKind.i64.wrap ((i : Int) - 1) = (i : Int) - 1 := IntWalk.i64_in _ (by omega)
      have e3 : IntKind.i64.wrap ((i : Int) * ((i : Int) - 1)) = (t : Int) := by rw [tri_int, ← ht, IntWalk.i64_in _ (by omega)]
      have e7 : IntKind.i64.wrap ((t : Int).tdiv 2) = ((t / 2 : Nat) : Int) := by rw [Int.tdiv_eq_ediv_of_nonneg (by omega), IntWalk.i64_in _ (by omega)]; omega
      have e8 : IntKind.i64.wrap ((B : Int) + (q : Int)) = (B : Int) + (q : Int) := IntWalk.i64_in _ (by omega)
      rw [← hq, ← ht] at G
      have HG := Lib.hid G
      clear hq ht G
      have lr : r' < a := by omega
      clear hr' hB hp
      subst hi hj
      subst hm
      go_enter Try.func62, Try.ntmps62
      go_wp2
      go_ret
      exact ⟨ret_int (by rw [HG.out]; have := HBB.out; omega), rfl⟩
    · obtain ⟨i, hi⟩ : ∃ i, i = c := ⟨_, rfl⟩
      obtain ⟨j, hj⟩ : ∃ j, j = r' := ⟨_, rfl⟩
      have G : placeN a r c = B + i * a - i * (i - 1) / 2 + j - i := by unfold placeN; rw [if_neg h, if_neg h, ← hr', Nat.min_eq_right (by omega), Nat.max_eq_left (by omega), hi, hj, hB, hp]
      have li : i ≤ 7 := by omega
      have lj : j ≤ 7 := by omega
      obtain ⟨q, hq⟩ : ∃ q, q = i * a := ⟨_, rfl⟩
      obtain ⟨t, ht⟩ : ∃ t, t = i * (i - 1) := ⟨_, rfl⟩
      have lq : q ≤ 49 := by rw [hq]; exact Nat.mul_le_mul li a7
      have lt : t ≤ 42 := by rw [ht]; exact tri_le i li
      have hq2 : t / 2 ≤ B + q := by
        have : i * (i - 1) ≤ i * a := Nat.mul_le_mul_left i (by omega)
        omega
      have e1 : IntKind.i64.wrap ((i : Int) * (a : Int)) = (q : Int) := by rw [← Int.natCast_mul, ← hq, IntWalk.i64_in _ (by omega)]
      have e2 : IntKind.i64.wrap ((i : Int) - 1) = (i : Int) - 1 := IntWalk.i64_in _ (by omega)
      have e3 : IntKind.i64.wrap ((i : Int) * ((i : Int) - 1)) = (t : Int) := by rw [tri_int, ← ht, IntWalk.i64_in _ (by omega)]
      have e7 : IntKind.i64.wrap ((t : Int).tdiv 2) = ((t / 2 : Nat) : Int) := by rw [Int.tdiv_eq_ediv_of_nonneg (by omega), IntWalk.i64_in _ (by omega)]; omega
      have e8 : IntKind.i64.wrap ((B : Int) + (q : Int)) = (B : Int) + (q : Int) := IntWalk.i64_in _ (by omega)
      rw [← hq, ← ht] at G
      have HG := Lib.hid G
      clear hq ht G
      have lr : r' < a := by omega
      clear hr' hB hp
      subst hi hj
      have h2 : (i : Int) < (j : Int) := by omega
      go_enter Try.func62, Try.ntmps62
      go_wp2
      go_ret
      exact ⟨ret_int (by rw [HG.out]; have := HBB.out; omega), rfl⟩
end Go.Proofs.Ytcnfafappcbpnaa.Str
namespace Go.Proofs.Ytcnfafappcbpnaa.Str
open Go Go.RowKit Go.Proofs.Ytcnfafappcbpnaa.PHealFragments Go.Proofs.Ytcnfafappcbpnaa.BHealFragments Go.Proofs.Ytcnfafappcbpnaa.Gf Go.Proofs.Ytcnfafappcbpnaa.Gi Go.Proofs.Ytcnfafappcbpnaa.Bits Go.Proofs.Ytcnfafappcbpnaa.Mem Go.Proofs.Ytcnfafappcbpnaa.VPts Go.Proofs.Ytcnfafappcbpnaa.Rws Go.Proofs.YtcnfafappcbpnaaW.PrintWords Go.Proofs.YtcnfafappcbpnaaW.PrintLast
set_option linter.unusedVariables false
theorem mul_calls (a b : Int) (w : World) (ha : Byt a) (hb : Byt b) :
    Calls Try.prog 26 #[.int .u8 a, .int .u8 b] w fun e w' => e = .returned (.int .u8 (gmI a b)) ∧ ∃ n, w' = w.drewN n := by
  obtain ⟨x, hx, rfl⟩ := byt_nat ha
  obtain ⟨y, hy, rfl⟩ := byt_nat hb
  refine (gf_Mul.calls 9 x y _ w (gf_mul 9 x y hx hy (by decide))).mono ?_
  rintro e w' ⟨rfl, h⟩
  exact ⟨by simp [gmI], h.out⟩
theorem add_calls (a b : Int) (w : World) (ha : Byt a) (hb : Byt b) :
    Calls Try.prog 25 #[.int .u8 a, .int .u8 b] w fun e w' => e = .returned (.int .u8 (xorI a b)) ∧ ∃ n, w' = w.drewN n := by
  refine (gf_Add.calls a b _ w (show gf_Add.f a b = some (xorI a b) by unfold gf_Add.f; rw [xor_bits ha hb])).mono ?_
  rintro e w' ⟨rfl, h⟩
  exact ⟨rfl, h.out⟩
set_option maxRecDepth 100000 in
theorem n_any (v : Value) (n k : Nat) (w : World) (h : IsCode w v n k) :
    Calls Try.prog 22 #[v] w fun e w' => e = .returned (.int .i64 n) ∧ w' = w := by
  obtain ⟨b, A, c, rfl, h⟩ := h
  have h1 := (h.cell 0).trans rfl
  simp at h1
  go_enter Try.func22, Try.ntmps22
  go_wp2
  go_ret
  exact ⟨rfl, rfl⟩
set_option maxRecDepth 100000 in
theorem helpers_any (v : Value) (n k : Nat) (w : World) (h : IsCode w v n k) (h1 : 1 ≤ k) (h2 : k ≤ 100) :
    Calls Try.prog 27 #[v] w fun e w' => e = .returned (.int .i64 ((2 * k - 2 : Nat) : Int)) ∧ w' = w := by
  have H := Lib.hid h
  have e1 : IntKind.i64.wrap (2 * (k : Int)) = 2 * (k : Int) := IntWalk.i64_in _ (by omega)
  have e2 : IntKind.i64.wrap (2 * (k : Int) - 2) = ((2 * k - 2 : Nat) : Int) := by rw [IntWalk.i64_in _ (by omega)]; omega
  obtain ⟨q, hq⟩ : ∃ q, q = 2 * k - 2 := ⟨_, rfl⟩
  rw [← hq] at e2 ⊢
  have e3 : max (q : Int) 0 = (q : Int) := by omega
  clear h hq h1 h2
  go_enter Try.func27, Try.ntmps27
  go_wp2_with (go_at_call 28; (with_reducible refine (k_any _ _ _ _ H.out).mono ?_); rintro e w1 ⟨rfl, rfl⟩)
  go_ret
  exact ⟨rfl, rfl⟩
theorem pows_take (x m n : Nat) (h : m ≤ n) : (pows x n).take m = pows x m := by
  unfold pows
  rw [← List.map_take, List.take_range, Nat.min_eq_left h]
theorem R_new_block {w : World} {base n c : Nat} {ok : Nat → Prop} {A : Option Addr} {ad : Addr} {xs : List Int} (h : Kd.R (Kd.int .u8) 5 w base ok (.slice A n c) xs) (e : A = some ad) : base ≤ ad.block := by
  have h1 := Kd.own_of_R h
  rcases h1.2 with ⟨h2, _⟩ | ⟨g, cap, cur, h2, h3, _⟩
  · injection h2 with h2; rw [e] at h2; cases h2
  · injection h2 with h2; rw [e] at h2; injection h2 with h2; subst h2; exact h3
set_option maxRecDepth 100000 in
theorem half_any (v : Value) (n k slot : Nat) (w : World) (hc : IsCodeP w v n k) (k1 : 2 ≤ k) (k2 : k ≤ 8) (n2 : n ≤ 24) (hs : slot < n) :
    Calls Try.prog 24 #[v, .int .i64 slot] w fun e w' => ∃ A c, e = .returned (.slice A (k - 1) c) ∧ k - 1 ≤ c ∧ (Kd.int .u8).C w' A (k - 1) (pows (ptN n k slot) (k - 1)) ∧ (∀ ad, A = some ad → w.heap.size ≤ ad.block) ∧ Below w.heap.size w w' := by
  have RC := Lib.hid (row_any v n k slot w hc k1 k2 n2 hs)
  obtain ⟨i0, hi, hz⟩ := Option.map_eq_some_iff.1 VPts.info_byte
  simp only [Prod.mk.injEq] at hz
  obtain ⟨x, hx⟩ : ∃ x, x = ptN n k slot := ⟨_, rfl⟩
  rw [← hx] at RC ⊢
  obtain ⟨a, ha⟩ : ∃ a, a = k - 1 := ⟨_, rfl⟩
  obtain ⟨m, hm⟩ : ∃ m, m = 2 * k - 2 := ⟨_, rfl⟩
  have KC := Lib.hid (fun (A : Option Addr) (c : Nat) (hcm : m ≤ c) => show (∀ w : World, (Kd.int .u8).C w A m (pows x m) → (Kd.int .u8).C w A a (pows x a)) by
    have h := print_take_int (k := .u8) 22 5 Try.underlying22 hi hz.2.1 A c (pows x m) ((m : Int) / 2) (by omega) (by rw [pows_len]; omega) (by rw [pows_len]; exact hcm)
    rw [show ((m : Int) / 2).toNat = a by omega, pows_take x a m (by omega), pows_len, pows_len] at h
    exact fun w hC => Kd.C_of_reads (d := (0 : Int)) (h.2.1 w (Kd.reads_of_C (d := (0 : Int)) hC)))
  have q1 : (m : Int) ≤ 14 := by omega
  have q2 : ((m : Int) / 2).toNat = a := by omega
  rw [← ha]
  rw [← hm] at RC
  have HM := Lib.hid (show a ≤ m by omega)
  clear hx ha hm k1 k2 n2 hs hc hi hz
  go_enter Try.func24, Try.ntmps24
  go_wp2_with (go_at_call 32; (with_reducible refine RC.out.mono ?_); rintro e w1 ⟨A5, c5, rfl, hr, hb⟩; obtain ⟨hzz, hle, hC⟩ := Kd.R_reads' hr; clear hzz; rw [pows_len] at hC; have HC := Lib.hid hC; have HL := Lib.hid hle; have q3 : (m : Int) / 2 ≤ (c5 : Int) := (by omega); have q4 : (0 : Int) ≤ (m : Int) / 2 := (by omega); have HB := Lib.hid hb; have HAD := Lib.hid (fun ad (e : A5 = some ad) => R_new_block hr e); clear hr hb hC hle)
  go_ret
  exact ⟨A5, c5, rfl, by have := HL.out; have := HM.out; omega, KC.out A5 c5 HL.out _ HC.out, HAD.out, HB.out⟩
def fragTo (x m sz : Nat) (sh : List Int) (i : Nat) : Int := dotN (fun j => ((gp x j : Nat) : Int)) (fun j => sh.getD (j * sz + i) 0) m
def fragL (x m sz : Nat) (sh : List Int) : List Int := line sz (fragTo x m sz sh)
theorem fragTo_succ (x m sz : Nat) (sh : List Int) (i : Nat) : fragTo x (m + 1) sz sh i = xorI (fragTo x m sz sh i) (gmI ((gp x m : Nat) : Int) (sh.getD (m * sz + i) 0)) := rfl
theorem gp_byt (x j : Nat) (hx : x < 256) : Byt ((gp x j : Nat) : Int) := by have := gp_lt x hx j; exact ⟨by omega, by omega⟩
theorem fragTo_byt (x m sz : Nat) (sh : List Int) (i : Nat) (hx : x < 256) : Byt (fragTo x m sz sh i) := dotN_byt (fun j => gp_byt x j hx) m
def fragMid (x m sz : Nat) (sh : List Int) (i : Nat) : List Int := line sz (fun i' => if i' < i then fragTo x (m + 1) sz sh i' else fragTo x m sz sh i')
theorem fragMid_zero (x m sz : Nat) (sh : List Int) : fragMid x m sz sh 0 = fragL x m sz sh := line_congr sz _ _ (fun i hi => by rw [if_neg (Nat.not_lt_zero i)])
theorem fragMid_full (x m sz : Nat) (sh : List Int) : fragMid x m sz sh sz = fragL x (m + 1) sz sh := line_congr sz _ _ (fun i hi => by rw [if_pos hi])
theorem fragMid_set (x m sz : Nat) (sh : List Int) (i : Nat) (hi : i < sz) : (fragMid x m sz sh i).set i (fragTo x (m + 1) sz sh i) = fragMid x m sz sh (i + 1) := by
  unfold fragMid
  rw [line_set sz _ i hi]
  refine line_congr sz _ _ (fun k hk => ?_)
  by_cases e : k = i
  · subst e; rw [if_pos rfl, if_pos (by omega)]
  · rw [if_neg e]
    by_cases h : k < i
    · rw [if_pos h, if_pos (by omega)]
    · rw [if_neg h, if_neg (by omega)]
theorem fragMid_get (x m sz : Nat) (sh : List Int) (i : Nat) (hi : i < sz) : (fragMid x m sz sh i).getD i 0 = fragTo x m sz sh i := by
  unfold fragMid
  rw [line_get sz _ i hi, if_neg (Nat.lt_irrefl i)]
theorem fragL_zero (x sz : Nat) (sh : List Int) : fragL x 0 sz sh = List.replicate sz 0 := line_zero sz
theorem at_row {w : World} {A : Option Addr} {n : Nat} {xs : List Int} (h : (Kd.int .u8).C w A n xs) (i : Nat) (hi : i < n) : ∃ ad, A = some ad ∧ w.cell? (ad.add i) = some (.int .u8 (xs.getD i 0)) := by
  obtain ⟨ad, e, hc⟩ := Kd.at_int h (i : Int) (by omega) (by omega)
  simp only [Int.toNat_natCast] at hc
  exact ⟨ad, e, by simpa [rd] using hc⟩
def RowAt (w : World) (ad : Addr) (n : Nat) (xs : List Int) : Prop := ∀ j, j < n → w.cell? (ad.add j) = some (.int .u8 (xs.getD j 0))
theorem RowAt.of {w : World} {A : Option Addr} {n : Nat} {xs : List Int} (h : (Kd.int .u8).C w A n xs) (hn : 0 < n) : ∃ ad, A = some ad ∧ RowAt w ad n xs := by
  obtain ⟨ad, e, _⟩ := at_row h 0 hn
  refine ⟨ad, e, fun j hj => ?_⟩
  obtain ⟨ad', e', hc⟩ := at_row h j hj
  rw [e] at e'
  injection e' with e'
  subst e'
  exact hc
theorem RowAt.far {w : World} {ad : Addr} {n : Nat} {xs : List Int} (h : RowAt w ad n xs) {p : Addr} (hp : ad.block ≠ p.block) (u : Value) : RowAt (w.setCell p u) ad n xs :=
  fun j hj => (World.cell?_setCell_other w p (ad.add j) u (fun e => hp (by rw [e, block_of_add]))).trans (h j hj)
theorem RowAt.drewN {w : World} {ad : Addr} {n : Nat} {xs : List Int} (h : RowAt w ad n xs) (q : Nat) : RowAt (w.drewN q) ad n xs := h
theorem RowAt.drew {w : World} {ad : Addr} {n : Nat} {xs : List Int} (h : RowAt w ad n xs) : RowAt w.drew ad n xs := h
theorem pows_get (x n i : Nat) (hi : i < n) : (pows x n).getD i 0 = ((gp x i : Nat) : Int) := by simp [pows, List.getD_eq_getElem?_getD, hi]
end Go.Proofs.Ytcnfafappcbpnaa.Str
namespace Go.Proofs.Ytcnfafappcbpnaa.Str
open Go Go.RowKit Go.Proofs.Ytcnfafappcbpnaa.BHealFragments Go.Proofs.Ytcnfafappcbpnaa.Gf Go.Proofs.Ytcnfafappcbpnaa.Gi Go.Proofs.Ytcnfafappcbpnaa.Bits Go.Proofs.Ytcnfafappcbpnaa.Mem Go.Proofs.Ytcnfafappcbpnaa.VPts Go.Proofs.Ytcnfafappcbpnaa.Rws Go.Proofs.YtcnfafappcbpnaaW.PrintWords
set_option linter.unusedVariables false
set_option maxRecDepth 100000 in
set_option maxHeartbeats 1000000 in
theorem short_any (v : Value) (n k slot : Nat) (w : World) (hc : IsCodeP w v n k) (k1 : 2 ≤ k) (k2 : k ≤ 8) (n2 : n ≤ 24) (hs : slot < n) :
    Calls Try.prog 71 #[v, .int .i64 slot] w fun e w' => ∃ A c, e = .returned (.slice A (k - 1) c) ∧ Kd.R (Kd.int .u8) 5 w' w.heap.size (fun _ => True) (.slice A (k - 1) c) (pows (ptN n k slot) (k - 1)) ∧ Below w.heap.size w w' := by
  obtain ⟨b, A, c, rfl, hb, hnc, hP⟩ := hc
  have y0 : w.cell? ⟨b, 0, none⟩ = some (.int .i64 n) := (hb.cell 0).trans rfl
  have y1 : w.cell? ⟨b, 1, none⟩ = some (.int .i64 k) := (hb.cell 1).trans rfl
  have y2 : w.cell? ⟨b, 2, none⟩ = some (.slice A n c) := (hb.cell 2).trans rfl
  obtain ⟨ad, cc, rfl, _, hK, hcell⟩ := Kd.C_get hP 0 (slot : Int) (by omega) (by omega)
  have y3 : w.cell? (ad.add slot) = some (.int .u8 (ptN n k slot)) := by
    have hK' : cc = [.int .u8 ((ptsL n (k - 1)).getD slot 0)] := hK
    subst hK'
    have := hcell 0 _ rfl
    rw [ptN_eq] at this
    simpa [Kd.int, Kd.scalar] using this
  obtain ⟨x, hx⟩ : ∃ x, x = ptN n k slot := ⟨_, rfl⟩
  have hx2 : x < 256 := by rw [hx]; exact ptN_lt n k slot
  rw [← hx] at y3 ⊢
  obtain ⟨m, hm⟩ : ∃ m, m = k - 1 := ⟨_, rfl⟩
  have e2 : IntKind.i64.wrap ((k : Int) - 1) = (m : Int) := by rw [IntWalk.i64_in _ (by omega)]; omega
  have e5 : (slot : Int) < (n : Int) := by omega
  have e6 : (0 : Int) ≤ (slot : Int) := by omega
  rw [← hm]
  have RC := Lib.hid (fun W => row_calls x hx2 (m : Int) (by omega) W)
  clear hb hP hK hcell hx hx2 hm k1 k2 n2 hs hnc
  go_enter Try.func71, Try.ntmps71
  go_wp2
  refine wp_region_still_tail 12 (by kernel_rfl) (by kernel_rfl) ?_
  change wpStill _ _ _ (fun a' => wpList _ _ _ _ a' _) _ _
  simp only [List.take_succ_cons, List.take_zero, List.drop_succ_cons, List.drop_zero]
  repeat still_step
  refine wpStill_nil ?_
  go_wp2_with (go_at_call 48; (with_reducible refine (RC.out _).mono ?_); rintro e w1 ⟨A5, c5, rfl, hr, hb⟩; have HR := Lib.hid hr; have HB := Lib.hid hb; clear hr hb)
  go_ret
  exact ⟨_, _, rfl, by simpa using HR.out, (Below.refl w.heap.size w).drew.trans HB.out⟩
set_option maxRecDepth 100000 in
set_option maxHeartbeats 1000000 in
theorem codefactor_any (v : Value) (n k slot : Nat) (w : World) (hc : IsCodeP w v n k) (k1 : 2 ≤ k) (k2 : k ≤ 8) (n2 : n ≤ 24) (hs : slot < n) :
    Calls Try.prog 72 #[v, .int .i64 slot] w fun e w' => e = .returned (.int .u8 ((gp (ptN n k slot) (k - 1) : Nat) : Int)) ∧ ∃ q, w' = w.drewN q := by
  obtain ⟨b, A, c, rfl, hb, hnc, hP⟩ := hc
  have y0 : w.cell? ⟨b, 0, none⟩ = some (.int .i64 n) := (hb.cell 0).trans rfl
  have y1 : w.cell? ⟨b, 1, none⟩ = some (.int .i64 k) := (hb.cell 1).trans rfl
  have y2 : w.cell? ⟨b, 2, none⟩ = some (.slice A n c) := (hb.cell 2).trans rfl
  obtain ⟨ad, cc, rfl, _, hK, hcell⟩ := Kd.C_get hP 0 (slot : Int) (by omega) (by omega)
  have y3 : w.cell? (ad.add slot) = some (.int .u8 (ptN n k slot)) := by
    have hK' : cc = [.int .u8 ((ptsL n (k - 1)).getD slot 0)] := hK
    subst hK'
    have := hcell 0 _ rfl
    rw [ptN_eq] at this
    simpa [Kd.int, Kd.scalar] using this
  obtain ⟨x, hx⟩ : ∃ x, x = ptN n k slot := ⟨_, rfl⟩
  have hx2 : x < 256 := by rw [hx]; exact ptN_lt n k slot
  rw [← hx] at y3 ⊢
  obtain ⟨m, hm⟩ : ∃ m, m = k - 1 := ⟨_, rfl⟩
  have e2 : IntKind.i64.wrap ((k : Int) - 1) = (m : Int) := by rw [IntWalk.i64_in _ (by omega)]; omega
  have e5 : (slot : Int) < (n : Int) := by omega
  have e6 : (0 : Int) ≤ (slot : Int) := by omega
  rw [← hm]
  have PW := Lib.hid (fun W => pow_still x m W hx2 (by omega))
  clear hb hP hK hcell hx hx2 hm k1 k2 n2 hs hnc
  go_enter Try.func72, Try.ntmps72
  go_wp2
  go_quiet ((go_at_call 43; exact Calls.quiet_of_same (PW.out _)))
  go_wp2
  go_ret
  exact ⟨rfl, _, rfl⟩
end Go.Proofs.Ytcnfafappcbpnaa.Str
namespace Go.Proofs.Ytcnfafappcbpnaa.Par
open Go Go.RowKit Go.Proofs.Ytcnfafappcbpnaa.Bits Go.Proofs.Ytcnfafappcbpnaa.Mem Go.Proofs.Ytcnfafappcbpnaa.Gi Go.Proofs.Ytcnfafappcbpnaa.Rws Go.Proofs.Ytcnfafappcbpnaa.Opn Go.Proofs.Ytcnfafappcbpnaa.Str Go.Proofs.YtcnfafappcbpnaaW.PrintWords
set_option linter.unusedVariables false
def Z24 : Array Value := Array.replicate 24 (.bool false)
theorem zero_24 (w : World) : (zeroValue 79).run Try.prog w = .ok (.agg Z24) w := by kernel_rfl
def seenB (s : Nat → Int) (i : Nat) (y : Nat) : Bool := decide (∃ j, j < i ∧ s j = (y : Int))
def Seen24 (s : Nat → Int) (i : Nat) (cs : Array Value) : Prop := cs.size = 24 ∧ ∀ y, y < 24 → cs[y]? = some (.bool (seenB s i y))
theorem seen24_0 (s : Nat → Int) : Seen24 s 0 Z24 := by
  refine ⟨by simp [Z24], fun y hy => ?_⟩
  have : seenB s 0 y = false := by unfold seenB; simp
  rw [this]
  simp [Z24, hy]
theorem seen24_more {s : Nat → Int} {i : Nat} {cs : Array Value} (h : Seen24 s i cs) (p : Nat) (hp : p < 24) (hs : s i = (p : Int)) : Seen24 s (i + 1) (cs.setIfInBounds p (.bool true)) := by
  refine ⟨by simp [h.1], fun y hy => ?_⟩
  rw [Array.getElem?_setIfInBounds]
  by_cases e : p = y
  · subst e
    rw [if_pos rfl, if_pos (by rw [h.1]; exact hp)]
    congr 2
    symm
    unfold seenB
    rw [decide_eq_true_iff]
    exact ⟨i, by omega, hs⟩
  · rw [if_neg e, h.2 y hy]
    congr 2
    unfold seenB
    rw [decide_eq_decide]
    constructor
    · rintro ⟨j, hj, e2⟩
      exact ⟨j, by omega, e2⟩
    · rintro ⟨j, hj, e2⟩
      rcases Nat.lt_or_ge j i with hh | hh
      · exact ⟨j, hh, e2⟩
      · obtain rfl : j = i := by omega
        rw [hs] at e2
        omega
def RightPost (n : Nat) (s : Nat → Int) (m : Nat → Nat) (lost : Int) (N : Nat) (w : World) (e : Ending) (w' : World) : Prop :=
  ∃ b : Bool, e = .returned (.bool b) ∧ (b = true ↔ okTo n s m N ∧ ∀ i, i < N → s i ≠ lost) ∧ Below w.heap.size w w'
theorem bad_at {n N i : Nat} {s : Nat → Int} {m : Nat → Nat} {lost : Int} (hi : i < N) (hb : ¬ (okAt n s m i ∧ s i ≠ lost)) : (false = true ↔ okTo n s m N ∧ ∀ i, i < N → s i ≠ lost) :=
  ⟨fun e => Bool.noConfusion e, fun e => absurd ⟨e.1 i hi, e.2 i hi⟩ hb⟩
set_option maxRecDepth 100000 in
set_option maxHeartbeats 4000000 in
theorem right_any (v : Value) (n k N c : Nat) (lost : Int) (A : Option Addr) (s : Nat → Int) (h : Nat → Hd) (x : Nat → List Int) (w : World) (hv : IsCode w v n k) (hp : PA w A N s h x) (m : Nat → Nat) (hm : ∀ i, (x i).length = m i) (hN : N ≤ 100) (hn : n ≤ 24) :
    Calls Try.prog 31 #[v, .int .i64 lost, .slice A N c] w (RightPost n s m lost N w) := by
  have HP := Lib.hid (fun W (hB : Below w.heap.size w W) => hp.below hB)
  have HMX := Lib.hid hm
  have HNA := Lib.hid (fun W (hB : Below w.heap.size w W) => n_any v n k W (hv.below hB))
  have hz := zero_24
  have HB0 := Lib.hid (show Below w.heap.size w (w.alloc (.cells Z24 79)) from (Below.refl _ _).alloc (Nat.le_refl _) _)
  have HG0 := Lib.hid (show ∃ cs, Blk (w.alloc (.cells Z24 79)) w.heap.size 79 cs ∧ Seen24 s 0 cs from ⟨Z24, Blk.new _ _ _, seen24_0 s⟩)
  clear hp hm hv
  go_enter Try.func31, Try.ntmps31
  go_wp2
  clear hz
  go_loopw [9, 12] (fun _ iv wr => ∃ (i : Nat), i ≤ N ∧ iv = .int .i64 i ∧ Hid (okTo n s m i ∧ ∀ j, j < i → s j ≠ lost) ∧ Hid (∃ cs, Blk wr w.heap.size 79 cs ∧ Seen24 s i cs) ∧ Hid (Below w.heap.size w wr)) (fun _ iv _ => N - (intOf iv).toNat)
  case atStart => exact ⟨0, by omega, rfl, Lib.hid ⟨fun i hi => absurd hi (Nat.not_lt_zero i), fun j hj => absurd hj (Nat.not_lt_zero j)⟩, HG0, HB0⟩
  case round =>
    clear HB0 HG0
    obtain ⟨i, hi, rfl, HOK, HG, HB⟩ := hrel
    by_cases hlt : i < N
    · have g1 : (i : Int) < (N : Int) := by omega
      have g2 : (0 : Int) ≤ (i : Int) := by omega
      have g3 : (0 : Int) < (N : Int) := by omega
      obtain ⟨ad, rfl, k1, k2, k3, k4, k5⟩ := HP.out wr HB.out i hlt
      obtain ⟨ad', e0, j1, j2, j3, j4, j5⟩ := HP.out wr HB.out 0 (by omega)
      injection e0 with e0
      subst e0
      have j6 : ad.add (0 * 2) = ad := by simp [Addr.add]
      rw [j6] at j1 j2
      obtain ⟨⟨A2, m2, c2⟩, hh2⟩ : ∃ q, q = h i := ⟨_, rfl⟩
      obtain ⟨⟨A0, m0, c0⟩, hh0⟩ : ∃ q, q = h 0 := ⟨_, rfl⟩
      rw [← hh2] at k2 k3
      rw [← hh0] at j2 j3
      have HK3 := Lib.hid (show m i = m2 by rw [← HMX.out]; exact k3)
      have HJ3 := Lib.hid (show m 0 = m0 by rw [← HMX.out]; exact j3)
      obtain ⟨si, hsi⟩ : ∃ si, si = s i := ⟨_, rfl⟩
      rw [← hsi] at k1
      have HSI := Lib.hid hsi
      have hk2 : wr.cell? ⟨(ad.add (i * 2)).block, (ad.add (i * 2)).off + 1, none⟩ = some (.slice A2 m2 c2) := k2
      have hj2 : wr.cell? ⟨ad.block, ad.off + 1, none⟩ = some (.slice A0 m0 c0) := j2
      obtain ⟨W1, hW1⟩ : ∃ W1, W1 = wr.alloc (.cells #[.int .i64 si, .slice A2 m2 c2] 37) := ⟨_, rfl⟩
      have hb1 : Below wr.heap.size wr W1 := by rw [hW1]; exact (Below.refl _ _).alloc (Nat.le_refl _) _
      have HBK := Lib.hid (show Blk W1 wr.heap.size 37 #[.int .i64 si, .slice A2 m2 c2] by rw [hW1]; exact Blk.new _ _ _)
      have HJ2 := Lib.hid (pw_cell_below hb1 hj2)
      have HW1 := Lib.hid hW1
      have HB1 := Lib.hid (HB.out.trans (hb1.mono HB.out.size))
      have HG1 := Lib.hid (show ∃ cs, Blk W1 w.heap.size 79 cs ∧ Seen24 s i cs by
        obtain ⟨cs, h1, h2⟩ := HG.out
        exact ⟨cs, h1.below hb1 h1.lt, h2⟩)
      obtain ⟨b1, hb1'⟩ : ∃ b1, b1 = wr.heap.size := ⟨_, rfl⟩
      rw [← hb1'] at HBK
      have HB1' := Lib.hid hb1'
      clear k2 k3 k4 k5 j1 j2 j3 j4 j5 j6 hh2 hh0 hsi hW1 hb1 hb1'
      go_upto_region 5 with (fail)
      rw [← HW1.out, ← HB1'.out]
      have c0 : W1.cell? ⟨b1, 0, none⟩ = some (.int .i64 si) := (HBK.out.cell 0).trans rfl
      have c1 : W1.cell? ⟨b1, 1, none⟩ = some (.slice A2 m2 c2) := (HBK.out.cell 1).trans rfl
      have c2' := HJ2.out
      have HBq := Lib.hid (fun q => pw_below_drewN HB1.out q)
      clear k1 hk2 hj2
      by_cases h1 : si < 0
      · go_quiet ((go_at_call 22; exact Calls.quiet_of_same (HNA.out _ (pw_below_drewN HB1.out _))))
        go_wp2
        go_ret
        exact ⟨false, rfl, bad_at hlt (fun e => by have := e.1.1; rw [← HSI.out] at this; omega), HBq.out _⟩
      by_cases h2 : (n : Int) ≤ si
      · go_quiet ((go_at_call 22; exact Calls.quiet_of_same (HNA.out _ (pw_below_drewN HB1.out _))))
        go_wp2
        go_ret
        exact ⟨false, rfl, bad_at hlt (fun e => by have := e.1.2.1; rw [← HSI.out] at this; omega), HBq.out _⟩
      obtain ⟨p, hp⟩ : ∃ p : Nat, si = p := ⟨si.toNat, by omega⟩
      subst hp
      have h1' : decide ((p : Int) < 0) = false := by simp
      have h2' : decide ((n : Int) ≤ (p : Int)) = false := by simp; omega
      have p1 : p < 24 := by omega
      have p2 : (p : Int) < 24 := by omega
      have p3 : (0 : Int) ≤ (p : Int) := by omega
      by_cases h3 : (p : Int) = lost
      · have h3' : ((p : Int) == lost) = true := by simp [h3]
        have H3 := Lib.hid h3
        clear h3
        go_quiet ((go_at_call 22; exact Calls.quiet_of_same (HNA.out _ (pw_below_drewN HB1.out _))))
        go_wp2
        go_ret
        exact ⟨false, rfl, bad_at hlt (fun e => e.2 (by rw [← HSI.out]; exact H3.out)), HBq.out _⟩
      have h3' : ((p : Int) == lost) = false := by simp [h3]
      have H3 := Lib.hid h3
      clear h3
      obtain ⟨cs, hbk, hsn⟩ := HG1.out
      have hc := (hbk.cell p).trans (hsn.2 p p1)
      have hfz := hbk.frozen p
      have HBS := Lib.hid hbk
      have HSN := Lib.hid hsn
      have HSB := Lib.hid (show seenB s i p = decide (∃ j, j < i ∧ s j = (p : Int)) from rfl)
      clear hbk hsn
      obtain ⟨sb, hsb⟩ : ∃ sb, sb = seenB s i p := ⟨_, rfl⟩
      rw [← hsb] at hc HSB
      clear hsb
      cases sb
      case true =>
        go_quiet ((go_at_call 22; exact Calls.quiet_of_same (HNA.out _ (pw_below_drewN HB1.out _))))
        go_wp2
        go_ret
        refine ⟨false, rfl, bad_at hlt (fun e => ?_), HBq.out _⟩
        obtain ⟨j, hj, e2⟩ := of_decide_eq_true (by first | exact HSB.out.symm | (have := HSB.out; simpa using this))
        exact e.1.2.2.2.2 j hj (by rw [e2, HSI.out])
      case false =>
        by_cases h4 : m2 = 0
        · have h4' : ((m2 : Int) == 0) = true := by simp [h4]
          have H4 := Lib.hid h4
          clear h4
          go_quiet ((go_at_call 22; exact Calls.quiet_of_same (HNA.out _ (pw_below_drewN HB1.out _))))
          go_wp2
          go_ret
          exact ⟨false, rfl, bad_at hlt (fun e => by have := e.1.2.2.1; rw [HK3.out, H4.out] at this; omega), HBq.out _⟩
        have h4' : ((m2 : Int) == 0) = false := by simp [h4]
        have H4 := Lib.hid h4
        clear h4
        by_cases h5 : m2 = m0
        · have h5' : ((m2 : Int) != (m0 : Int)) = false := by simp [h5]
          have H5 := Lib.hid h5
          clear h5
          go_quiet ((go_at_call 22; exact Calls.quiet_of_same (HNA.out _ (pw_below_drewN HB1.out _))))
          have HBw := Lib.hid (fun q => (HBq.out q).setCell (p := ⟨w.heap.size, p, none⟩) (Nat.le_refl _) (.bool true))
          have HGw := Lib.hid (fun q => (HBS.out.drewN q).set_ p (.bool true))
          go_wp2
          go_roundw
          case rel =>
            refine ⟨i + 1, by omega, by go_num, Lib.hid ⟨okTo_succ.2 ⟨HOK.out.1, by rw [← HSI.out]; omega, by rw [← HSI.out]; omega, by rw [HK3.out]; exact Nat.pos_of_ne_zero H4.out, by rw [HK3.out, HJ3.out]; exact H5.out, fun j hj e => ?_⟩, fun j hj => ?_⟩, Lib.hid ⟨_, HGw.out _, seen24_more HSN.out p p1 HSI.out.symm⟩, Lib.hid (HBw.out _)⟩
            · have := HSB.out
              have h9 : decide (∃ j, j < i ∧ s j = (p : Int)) = true := by rw [decide_eq_true_iff]; exact ⟨j, hj, by rw [e, ← HSI.out]⟩
              rw [h9] at this
              first | cases this | simp at this
            · rcases Nat.lt_or_ge j i with hh | hh
              · exact HOK.out.2 j hh
              · obtain rfl : j = i := by omega
                rw [← HSI.out]; exact H3.out
          case measure => simp [intOf]; omega
        · have h5' : ((m2 : Int) != (m0 : Int)) = true := by simp; omega
          have H5 := Lib.hid h5
          clear h5
          go_quiet ((go_at_call 22; exact Calls.quiet_of_same (HNA.out _ (pw_below_drewN HB1.out _))))
          go_wp2
          go_ret
          exact ⟨false, rfl, bad_at hlt (fun e => by have := e.1.2.2.2.1; rw [HK3.out, HJ3.out] at this; exact H5.out this), HBq.out _⟩
    · obtain rfl : i = N := by omega
      go_wp2
      go_ret
      exact ⟨true, rfl, ⟨fun _ => HOK.out, fun _ => rfl⟩, HB.out⟩
def MRightPost (n : Nat) (s : Nat → Int) (m : Nat → Nat) (N : Nat) (w : World) (e : Ending) (w' : World) : Prop :=
  ∃ b : Bool, e = .returned (.bool b) ∧ (b = true ↔ okTo n s m N) ∧ Below w.heap.size w w'
theorem mbad_at {n N i : Nat} {s : Nat → Int} {m : Nat → Nat} (hi : i < N) (hb : ¬ okAt n s m i) : (false = true ↔ okTo n s m N) :=
  ⟨fun e => Bool.noConfusion e, fun e => absurd (e i hi) hb⟩
set_option maxRecDepth 100000 in
set_option maxHeartbeats 4000000 in
theorem mright_any (v : Value) (n k N c : Nat) (A : Option Addr) (s : Nat → Int) (h : Nat → Hd) (x : Nat → List Int) (w : World) (hv : IsCode w v n k) (hp : PA w A N s h x) (m : Nat → Nat) (hm : ∀ i, (x i).length = m i) (hN : N ≤ 100) (hn : n ≤ 24) :
    Calls Try.prog 58 #[v, .slice A N c] w (MRightPost n s m N w) := by
  have HP := Lib.hid (fun W (hB : Below w.heap.size w W) => hp.below hB)
  have HMX := Lib.hid hm
  obtain ⟨bc, Ac, cc, rfl, hbc⟩ := hv
  have HBC := Lib.hid (fun W (hB : Below w.heap.size w W) => show W.cell? ⟨bc, 0, none⟩ = some (.int .i64 n) from ((hbc.below hB hbc.lt).cell 0).trans rfl)
  have hz := zero_24
  have HB0 := Lib.hid (show Below w.heap.size w (w.alloc (.cells Z24 79)) from (Below.refl _ _).alloc (Nat.le_refl _) _)
  have HG0 := Lib.hid (show ∃ cs, Blk (w.alloc (.cells Z24 79)) w.heap.size 79 cs ∧ Seen24 s 0 cs from ⟨Z24, Blk.new _ _ _, seen24_0 s⟩)
  clear hp hm hbc
  go_enter Try.func58, Try.ntmps58
  go_wp2
  clear hz
  go_loopw [7, 10] (fun _ iv wr => ∃ (i : Nat), i ≤ N ∧ iv = .int .i64 i ∧ Hid (okTo n s m i) ∧ Hid (∃ cs, Blk wr w.heap.size 79 cs ∧ Seen24 s i cs) ∧ Hid (Below w.heap.size w wr)) (fun _ iv _ => N - (intOf iv).toNat)
  case atStart => exact ⟨0, by omega, rfl, Lib.hid (fun i hi => absurd hi (Nat.not_lt_zero i)), HG0, HB0⟩
  case round =>
    clear HB0 HG0
    obtain ⟨i, hi, rfl, HOK, HG, HB⟩ := hrel
    by_cases hlt : i < N
    · have g1 : (i : Int) < (N : Int) := by omega
      have g2 : (0 : Int) ≤ (i : Int) := by omega
      have g3 : (0 : Int) < (N : Int) := by omega
      obtain ⟨ad, rfl, k1, k2, k3, k4, k5⟩ := HP.out wr HB.out i hlt
      obtain ⟨ad', e0, j1, j2, j3, j4, j5⟩ := HP.out wr HB.out 0 (by omega)
      injection e0 with e0
      subst e0
      have j6 : ad.add (0 * 2) = ad := by simp [Addr.add]
      rw [j6] at j1 j2
      obtain ⟨⟨A2, m2, c2⟩, hh2⟩ : ∃ q, q = h i := ⟨_, rfl⟩
      obtain ⟨⟨A0, m0, c0⟩, hh0⟩ : ∃ q, q = h 0 := ⟨_, rfl⟩
      rw [← hh2] at k2 k3
      rw [← hh0] at j2 j3
      have HK3 := Lib.hid (show m i = m2 by rw [← HMX.out]; exact k3)
      have HJ3 := Lib.hid (show m 0 = m0 by rw [← HMX.out]; exact j3)
      obtain ⟨si, hsi⟩ : ∃ si, si = s i := ⟨_, rfl⟩
      rw [← hsi] at k1
      have HSI := Lib.hid hsi
      have hk2 : wr.cell? ⟨(ad.add (i * 2)).block, (ad.add (i * 2)).off + 1, none⟩ = some (.slice A2 m2 c2) := k2
      have hj2 : wr.cell? ⟨ad.block, ad.off + 1, none⟩ = some (.slice A0 m0 c0) := j2
      obtain ⟨W1, hW1⟩ : ∃ W1, W1 = wr.alloc (.cells #[.int .i64 si, .slice A2 m2 c2] 37) := ⟨_, rfl⟩
      have hb1 : Below wr.heap.size wr W1 := by rw [hW1]; exact (Below.refl _ _).alloc (Nat.le_refl _) _
      have HBK := Lib.hid (show Blk W1 wr.heap.size 37 #[.int .i64 si, .slice A2 m2 c2] by rw [hW1]; exact Blk.new _ _ _)
      have HJ2 := Lib.hid (pw_cell_below hb1 hj2)
      have HW1 := Lib.hid hW1
      have HB1 := Lib.hid (HB.out.trans (hb1.mono HB.out.size))
      have HG1 := Lib.hid (show ∃ cs, Blk W1 w.heap.size 79 cs ∧ Seen24 s i cs by
        obtain ⟨cs, h1, h2⟩ := HG.out
        exact ⟨cs, h1.below hb1 h1.lt, h2⟩)
      obtain ⟨b1, hb1'⟩ : ∃ b1, b1 = wr.heap.size := ⟨_, rfl⟩
      rw [← hb1'] at HBK
      have HB1' := Lib.hid hb1'
      clear k2 k3 k4 k5 j1 j2 j3 j4 j5 j6 hh2 hh0 hsi hW1 hb1 hb1'
      go_upto_region 5 with (fail)
      rw [← HW1.out, ← HB1'.out]
      have c0 : W1.cell? ⟨b1, 0, none⟩ = some (.int .i64 si) := (HBK.out.cell 0).trans rfl
      have c1 : W1.cell? ⟨b1, 1, none⟩ = some (.slice A2 m2 c2) := (HBK.out.cell 1).trans rfl
      have c2' := HJ2.out
      have HBq := Lib.hid (fun q => pw_below_drewN HB1.out q)
      have y0 := HBC.out W1 HB1.out
      clear k1 hk2 hj2
      by_cases h1 : si < 0
      · go_quiet (fail)
        go_wp2
        go_ret
        exact ⟨false, rfl, mbad_at hlt (fun e => by have := e.1; rw [← HSI.out] at this; omega), HBq.out _⟩
      by_cases h2 : (n : Int) ≤ si
      · go_quiet (fail)
        go_wp2
        go_ret
        exact ⟨false, rfl, mbad_at hlt (fun e => by have := e.2.1; rw [← HSI.out] at this; omega), HBq.out _⟩
      obtain ⟨p, hp⟩ : ∃ p : Nat, si = p := ⟨si.toNat, by omega⟩
      subst hp
      have h1' : decide ((p : Int) < 0) = false := by simp
      have h2' : decide ((n : Int) ≤ (p : Int)) = false := by simp; omega
      have p1 : p < 24 := by omega
      have p2 : (p : Int) < 24 := by omega
      have p3 : (0 : Int) ≤ (p : Int) := by omega
      obtain ⟨cs, hbk, hsn⟩ := HG1.out
      have hc := (hbk.cell p).trans (hsn.2 p p1)
      have hfz := hbk.frozen p
      have HBS := Lib.hid hbk
      have HSN := Lib.hid hsn
      have HSB := Lib.hid (show seenB s i p = decide (∃ j, j < i ∧ s j = (p : Int)) from rfl)
      clear hbk hsn
      obtain ⟨sb, hsb⟩ : ∃ sb, sb = seenB s i p := ⟨_, rfl⟩
      rw [← hsb] at hc HSB
      clear hsb
      cases sb
      case true =>
        go_quiet (fail)
        go_wp2
        go_ret
        refine ⟨false, rfl, mbad_at hlt (fun e => ?_), HBq.out _⟩
        obtain ⟨j, hj, e2⟩ := of_decide_eq_true (by first | exact HSB.out.symm | (have := HSB.out; simpa using this))
        exact e.2.2.2.2 j hj (by rw [e2, HSI.out])
      case false =>
        by_cases h5 : m2 = m0
        · have h5' : ((m2 : Int) != (m0 : Int)) = false := by simp [h5]
          have H5 := Lib.hid h5
          clear h5
          by_cases h4 : m2 = 0
          · have h4' : ((m2 : Int) == 0) = true := by simp [h4]
            have H4 := Lib.hid h4
            clear h4
            go_quiet (fail)
            go_wp2
            go_ret
            exact ⟨false, rfl, mbad_at hlt (fun e => by have := e.2.2.1; rw [HK3.out, H4.out] at this; omega), HBq.out _⟩
          have h4' : ((m2 : Int) == 0) = false := by simp [h4]
          have H4 := Lib.hid h4
          clear h4
          go_quiet (fail)
          have HBw := Lib.hid (fun q => (HBq.out q).setCell (p := ⟨w.heap.size, p, none⟩) (Nat.le_refl _) (.bool true))
          have HGw := Lib.hid (fun q => (HBS.out.drewN q).set_ p (.bool true))
          go_wp2
          go_roundw
          case rel =>
            refine ⟨i + 1, by omega, by go_num, Lib.hid (okTo_succ.2 ⟨HOK.out, by rw [← HSI.out]; omega, by rw [← HSI.out]; omega, by rw [HK3.out]; exact Nat.pos_of_ne_zero H4.out, by rw [HK3.out, HJ3.out]; exact H5.out, fun j hj e => ?_⟩), Lib.hid ⟨_, HGw.out _, seen24_more HSN.out p p1 HSI.out.symm⟩, Lib.hid (HBw.out _)⟩
            have := HSB.out
            have h9 : decide (∃ j, j < i ∧ s j = (p : Int)) = true := by rw [decide_eq_true_iff]; exact ⟨j, hj, by rw [e, ← HSI.out]⟩
            rw [h9] at this
            first | cases this | simp at this
          case measure => simp [intOf]; omega
        · have h5' : ((m2 : Int) != (m0 : Int)) = true := by simp; omega
          have H5 := Lib.hid h5
          clear h5
          go_quiet (fail)
          go_wp2
          go_ret
          exact ⟨false, rfl, mbad_at hlt (fun e => by have := e.2.2.2.1; rw [HK3.out, HJ3.out] at this; exact H5.out this), HBq.out _⟩
    · obtain rfl : i = N := by omega
      go_wp2
      go_ret
      exact ⟨true, rfl, ⟨fun _ => HOK.out, fun _ => rfl⟩, HB.out⟩
end Go.Proofs.Ytcnfafappcbpnaa.Par
namespace Go.Proofs.Ytcnfafappcbpnaa.Sol
open Go.Proofs.Ytcnfafappcbpnaa.Gf Go.Proofs.Ytcnfafappcbpnaa.Gi Go.Proofs.Ytcnfafappcbpnaa.Alg
set_option linter.unusedVariables false
def pw (x : G) : Nat → G
  | 0 => 1
  | n + 1 => pw x n * x
theorem pw_succ' (x : G) : ∀ n, pw x (n + 1) = x * pw x n
  | 0 => by show 1 * x = x * 1; rw [Alg.one_mul, Fd.mul_one]
  | n + 1 => by
    show pw x (n + 1) * x = x * (pw x n * x)
    rw [pw_succ' x n, Fd.mul_assoc]
theorem of_gp (x n : Nat) (hx : x < 256) : G.of ((gp x n : Nat) : Int) = pw (G.of (x : Int)) n := by
  induction n with
  | zero => exact G.of_one
  | succ n ih =>
    have h := of_gm (a := ((gp x n : Nat) : Int)) (b := (x : Int)) (by have := gp_lt x hx n; exact ⟨by omega, by omega⟩) ⟨by omega, by omega⟩
    show G.of _ = pw _ n * _
    rw [← ih, ← h]
    congr 1
theorem sum_shift (n : Nat) (f : Nat → G) : sum (n + 1) f = f 0 + sum n (fun i => f (i + 1)) := by
  induction n with
  | zero => show 0 + f 0 = f 0 + 0; rw [Alg.zero_add, Fd.add_zero]
  | succ n ih =>
    show sum (n + 1) f + f (n + 1) = f 0 + (sum n (fun i => f (i + 1)) + f (n + 1))
    rw [ih, Fd.add_assoc]
theorem sum_left (n : Nat) (a : G) (f : Nat → G) : sum n (fun i => a * f i) = a * sum n f := by
  rw [Fd.mul_comm a, ← sum_scale]; exact sum_congr (fun i _ => Fd.mul_comm _ _)
theorem hor_sum (x : G) : ∀ (n : Nat) (c : Nat → G), hor ((List.range n).map c) x = sum n (fun j => pw x j * c j)
  | 0, _ => rfl
  | n + 1, c => by
    rw [List.range_succ_eq_map, List.map_cons, List.map_map, sum_shift]
    show c 0 + x * hor ((List.range n).map (c ∘ Nat.succ)) x = 1 * c 0 + _
    rw [hor_sum x n (c ∘ Nat.succ), Alg.one_mul, ← sum_left]
    congr 1
    refine sum_congr (fun j _ => ?_)
    show x * (pw x j * c (j + 1)) = pw x (j + 1) * c (j + 1)
    rw [pw_succ', Fd.mul_assoc]
theorem powers_inj (n : Nat) (x : Nat → G) (hx : ∀ i j, i < n → j < n → x i = x j → i = j) (M : Nat → Nat → G) (hM : ∀ i j, i < n → j < n → M i j = pw (x i) j)
    (c : Nat → G) (h : ∀ i, i < n → dotF n (M i) c = 0) : ∀ j, j < n → c j = 0 := by
  intro j hj
  refine noughts ((List.range n).map c) ((List.range n).map x) ?_ (by simp) (fun p hp => ?_) (c j) (List.mem_map.2 ⟨j, List.mem_range.2 hj, rfl⟩)
  · rw [List.nodup_iff_pairwise_ne, List.pairwise_map]
    exact List.Pairwise.imp_of_mem (fun {a b} ha hb hne e => hne (hx a b (List.mem_range.1 ha) (List.mem_range.1 hb) e)) (List.nodup_range)
  · obtain ⟨i, hi, rfl⟩ := List.mem_map.1 hp
    have hi' := List.mem_range.1 hi
    rw [hor_sum, ← h i hi']
    unfold dotF
    exact sum_congr (fun k hk => by rw [hM i k hi' hk])
end Go.Proofs.Ytcnfafappcbpnaa.Sol
namespace Go.Proofs.Ytcnfafappcbpnaa.Hl
open Go Go.RowKit Go.Proofs.Ytcnfafappcbpnaa.Gf Go.Proofs.Ytcnfafappcbpnaa.Gi Go.Proofs.Ytcnfafappcbpnaa.Alg Go.Proofs.Ytcnfafappcbpnaa.Sol Go.Proofs.Ytcnfafappcbpnaa.VPts Go.Proofs.Ytcnfafappcbpnaa.Str Go.Proofs.Ytcnfafappcbpnaa.BHealFragments
set_option linter.unusedVariables false
theorem pws_map (f : Nat → Nat) : ∀ k, pws f k = (firsts f k).map (fun x => ((f x.toNat : Nat) : Int))
  | 0 => rfl
  | k + 1 => by
    rw [pws_succ, firsts_succ]
    split
    · exact pws_map f k
    · rw [List.map_append, pws_map f k]; simp
theorem lam_inj (n k i j : Nat) (k1 : 2 ≤ k) (k2 : k ≤ 8) (n2 : n ≤ 24) (hi : i < n) (hj : j < n) (h : gp (ptN n k i) (k - 1) = gp (ptN n k j) (k - 1)) : i = j := by
  have h24 := many (k - 1) (by omega) (by omega)
  have hnd := pws_nodup (fun x => gp x (k - 1)) 40
  rw [pws_map] at hnd
  have e : ∀ q, q < n → (ptsL n (k - 1)).getD q 0 = (firsts (fun x => gp x (k - 1)) 40).getD q 0 := by
    intro q hq
    unfold ptsL
    rw [List.getD_eq_getElem?_getD, List.getD_eq_getElem?_getD, List.getElem?_take, if_pos hq]
  have hg : ∀ q, q < n → ((firsts (fun x => gp x (k - 1)) 40).map (fun x => ((gp x.toNat (k - 1) : Nat) : Int)))[q]? = some ((gp (ptN n k q) (k - 1) : Nat) : Int) := by
    intro q hq
    have hq2 : q < (firsts (fun x => gp x (k - 1)) 40).length := by omega
    rw [List.getElem?_map, List.getElem?_eq_getElem hq2]
    simp only [Option.map_some]
    congr 3
    unfold ptN
    rw [e q hq, List.getD_eq_getElem?_getD, List.getElem?_eq_getElem hq2]
    rfl
  have hii := hg i hi
  have hjj := hg j hj
  rw [h] at hii
  have hl : i < ((firsts (fun x => gp x (k - 1)) 40).map (fun x => ((gp x.toNat (k - 1) : Nat) : Int))).length := by rw [List.length_map]; omega
  have hl2 : j < ((firsts (fun x => gp x (k - 1)) 40).map (fun x => ((gp x.toNat (k - 1) : Nat) : Int))).length := by rw [List.length_map]; omega
  rw [List.getElem?_eq_getElem hl] at hii
  rw [List.getElem?_eq_getElem hl2] at hjj
  injection hii with a
  injection hjj with b
  rw [List.nodup_iff_pairwise_ne, List.pairwise_iff_getElem] at hnd
  rcases Nat.lt_trichotomy i j with hh | hh | hh
  · exact absurd (by rw [a, b]) (hnd i j hl hl2 hh)
  · exact hh
  · exact absurd (by rw [a, b]) (hnd j i hl2 hl hh)
theorem pt_inj (n k i j : Nat) (k1 : 2 ≤ k) (k2 : k ≤ 8) (n2 : n ≤ 24) (hi : i < n) (hj : j < n) (h : ptN n k i = ptN n k j) : i = j := lam_inj n k i j k1 k2 n2 hi hj (by rw [h])
def powM (f : Nat → Nat) : Mtx := fun i j => ((gp (f i) j : Nat) : Int)
theorem powM_byt {f : Nat → Nat} (hf : ∀ i, f i < 256) : BytM (powM f) := fun i j => by
  have := gp_lt (f i) (hf i) j
  exact ⟨by unfold powM; omega, by unfold powM; omega⟩
theorem powM_inj {f : Nat → Nat} {n : Nat} (hf : ∀ i, f i < 256) (hd : ∀ i j, i < n → j < n → f i = f j → i = j) (c : Nat → G) (h : ∀ i, i < n → dotF n (el (powM f) i) c = 0) : ∀ j, j < n → c j = 0 :=
  powers_inj n (fun i => G.of ((f i : Nat) : Int)) (fun i j hi hj e => hd i j hi hj (by
    have h1 := hf i
    have h2 := hf j
    have := G.of_inj (x := ((f i : Nat) : Int)) (y := ((f j : Nat) : Int)) ⟨by omega, by omega⟩ ⟨by omega, by omega⟩ e
    omega)) (el (powM f)) (fun i j hi hj => of_gp (f i) j (hf i)) c h
def mixY (P : Nat) (Z : Mtx) (F : Int) (j q : Nat) : Int := xorI (Z j q) (gmI (Z (j + P) q) F)
theorem mixY_byt {P : Nat} {Z : Mtx} {F : Int} (hZ : BytM Z) (j q : Nat) : Byt (mixY P Z F j q) := xorI_byt (hZ _ _) (gmI_byt (hZ _ _))
end Go.Proofs.Ytcnfafappcbpnaa.Hl
namespace Go.Proofs.Ytcnfafappcbpnaa.Str
open Go Go.RowKit Go.Proofs.Ytcnfafappcbpnaa.PHealFragments Go.Proofs.Ytcnfafappcbpnaa.BHealFragments Go.Proofs.Ytcnfafappcbpnaa.Gf Go.Proofs.Ytcnfafappcbpnaa.Gi Go.Proofs.Ytcnfafappcbpnaa.Bits Go.Proofs.Ytcnfafappcbpnaa.Mem Go.Proofs.Ytcnfafappcbpnaa.VPts Go.Proofs.Ytcnfafappcbpnaa.Rws Go.Proofs.YtcnfafappcbpnaaW.PrintWords Go.Proofs.YtcnfafappcbpnaaW.PrintLast
set_option linter.unusedVariables false
theorem rowsN_get {w : World} {A : Option Addr} {n : Nat} {ls : List (List Int)} (h : Kd.C kRow w A n ls) (i : Nat) (hi : i < n) :
    ∃ ad A0 c0, A = some ad ∧ w.cell? (ad.add i) = some (.slice A0 (ls.getD i []).length c0) ∧ (ls.getD i []).length ≤ c0 ∧ (Kd.int .u8).C w A0 (ls.getD i []).length (ls.getD i []) := by
  obtain ⟨ad, c, e, _, hK, hc0⟩ := Kd.C_get h [] (i : Int) (by omega) (by omega)
  obtain ⟨A0, c0, rfl, l0, g0⟩ := hK
  refine ⟨ad, A0, c0, e, ?_, l0, g0⟩
  have hq := hc0 0 _ rfl
  simpa [Kd.slice] using hq
end Go.Proofs.Ytcnfafappcbpnaa.Str
namespace Go.Proofs.Ytcnfafappcbpnaa.Hl
open Go Go.RowKit Go.Proofs.Ytcnfafappcbpnaa.Gf Go.Proofs.Ytcnfafappcbpnaa.Gi Go.Proofs.Ytcnfafappcbpnaa.Bits Go.Proofs.Ytcnfafappcbpnaa.Mem Go.Proofs.Ytcnfafappcbpnaa.Alg Go.Proofs.Ytcnfafappcbpnaa.Sol Go.Proofs.Ytcnfafappcbpnaa.VPts Go.Proofs.Ytcnfafappcbpnaa.Str Go.Proofs.Ytcnfafappcbpnaa.Rws Go.Proofs.Ytcnfafappcbpnaa.Par Go.Proofs.Ytcnfafappcbpnaa.BHealFragments Go.Proofs.YtcnfafappcbpnaaW.PrintWords
set_option linter.unusedVariables false
def FF (sz : Nat) (T : Nat → Nat → Nat → Int) (d a q i : Nat) : Nat → Int := fun pos =>
  if pos < a * sz then T (pos / sz) (pos % sz) d else if pos < a * sz + i then T a (pos - a * sz) (q + 1) else if pos < (a + 1) * sz then T a (pos - a * sz) q else 0
theorem suc_mul (a sz : Nat) : (a + 1) * sz = a * sz + sz := by rw [Nat.add_mul, Nat.one_mul]
theorem FF_start (sz d L : Nat) (T : Nat → Nat → Nat → Int) (h0 : ∀ j i, T j i 0 = 0) : line L (FF sz T d 0 0 0) = List.replicate L 0 := by
  rw [← line_zero]
  refine line_congr L _ _ (fun pos _ => ?_)
  unfold FF
  rw [Nat.zero_mul, if_neg (by omega), if_neg (by omega)]
  split
  · exact h0 _ _
  · rfl
theorem FF_get (sz d a q i : Nat) (T : Nat → Nat → Nat → Int) (hi : i < sz) : FF sz T d a q i (a * sz + i) = T a i q := by
  unfold FF
  rw [suc_mul, if_neg (by omega), if_neg (by omega), if_pos (by omega), Nat.add_sub_cancel_left]
theorem FF_step (sz d a q i L : Nat) (T : Nat → Nat → Nat → Int) (hi : i < sz) (hL : a * sz + i < L) : (line L (FF sz T d a q i)).set (a * sz + i) (T a i (q + 1)) = line L (FF sz T d a q (i + 1)) := by
  rw [line_set L _ _ hL]
  refine line_congr L _ _ (fun pos _ => ?_)
  unfold FF
  rw [suc_mul]
  by_cases e : pos = a * sz + i
  · rw [if_pos e, if_neg (by omega), if_pos (by omega), e, Nat.add_sub_cancel_left]
  · rw [if_neg e]
    by_cases h1 : pos < a * sz
    · rw [if_pos h1, if_pos h1]
    · rw [if_neg h1, if_neg h1]
      by_cases h2 : pos < a * sz + i
      · rw [if_pos h2, if_pos (by omega)]
      · rw [if_neg h2, if_neg (show ¬ pos < a * sz + (i + 1) by omega)]
theorem FF_row (sz d a q L : Nat) (T : Nat → Nat → Nat → Int) : line L (FF sz T d a q sz) = line L (FF sz T d a (q + 1) 0) := by
  refine line_congr L _ _ (fun pos _ => ?_)
  unfold FF
  rw [suc_mul]
  by_cases h1 : pos < a * sz
  · rw [if_pos h1, if_pos h1]
  · rw [if_neg h1, if_neg h1]
    by_cases h2 : pos < a * sz + sz
    · rw [if_pos h2, if_neg (by omega), if_pos h2]
    · rw [if_neg h2, if_neg h2, if_neg (by omega), if_neg h2]
theorem FF_next (sz d a L : Nat) (T : Nat → Nat → Nat → Int) (h0 : ∀ j i, T j i 0 = 0) (hs : 0 < sz) : line L (FF sz T d a d 0) = line L (FF sz T d (a + 1) 0 0) := by
  refine line_congr L _ _ (fun pos _ => ?_)
  unfold FF
  rw [suc_mul (a + 1), suc_mul a]
  by_cases h1 : pos < a * sz
  · rw [if_pos h1, if_pos (by omega)]
  · rw [if_neg h1, if_neg (by omega)]
    by_cases h2 : pos < a * sz + sz
    · rw [if_pos h2, if_pos h2]
      have e : pos = (pos - a * sz) + a * sz := by omega
      have e1 : pos / sz = a := by rw [e, Nat.add_mul_div_right _ _ hs, Nat.div_eq_of_lt (by omega), Nat.zero_add]
      have e2 : pos % sz = pos - a * sz := by
        have := Nat.div_add_mod pos sz
        rw [e1, Nat.mul_comm] at this
        omega
      rw [e1, e2]
    · rw [if_neg h2, if_neg h2, if_neg (by omega)]
      split
      · exact (h0 _ _).symm
      · rfl
theorem FF_end (sz d a : Nat) (T : Nat → Nat → Nat → Int) : line (a * sz) (FF sz T d a 0 0) = line (a * sz) (fun pos => T (pos / sz) (pos % sz) d) := by
  refine line_congr _ _ _ (fun pos hp => ?_)
  unfold FF
  rw [if_pos hp]
set_option maxRecDepth 100000 in
theorem factor_any (v : Value) (n k slot : Nat) (w : World) (hc : IsCodeP w v n k) (k1 : 2 ≤ k) (k2 : k ≤ 8) (n2 : n ≤ 24) (hs : slot < n) :
    Calls Try.prog 53 #[v, .int .i64 slot] w fun e w' => e = .returned (.int .u8 ((gp (ptN n k slot) (k - 1) : Nat) : Int)) ∧ Below w.heap.size w w' := by
  have RC := Lib.hid (row_any v n k slot w hc k1 k2 n2 hs)
  have HG := Lib.hid (fun W A c base (h : Kd.R (Kd.int .u8) 5 W base (fun _ => True) (.slice A (2 * k - 2) c) (pows (ptN n k slot) (2 * k - 2))) => show ∃ ad, A = some ad ∧ W.cell? (ad.add (k - 1)) = some (.int .u8 ((gp (ptN n k slot) (k - 1) : Nat) : Int)) by
    have hC := (Kd.R_reads' h).2.2
    rw [pows_len] at hC
    obtain ⟨ad, e, hcl⟩ := Sol.at_row hC (k - 1) (by omega)
    rw [Str.pows_get _ _ _ (by omega)] at hcl
    exact ⟨ad, e, hcl⟩)
  obtain ⟨d, hd⟩ : ∃ d, d = 2 * k - 2 := ⟨_, rfl⟩
  have e1 : (d : Int) / 2 = ((k - 1 : Nat) : Int) := by omega
  have g1 : ((k - 1 : Nat) : Int) < (d : Int) := by omega
  have g2 : (0 : Int) ≤ ((k - 1 : Nat) : Int) := by omega
  obtain ⟨p, hp⟩ : ∃ p, p = k - 1 := ⟨_, rfl⟩
  rw [← hp] at HG e1 g1 g2 ⊢
  rw [← hd] at RC HG
  obtain ⟨z, hz⟩ : ∃ z, z = gp (ptN n k slot) p := ⟨_, rfl⟩
  rw [← hz] at HG ⊢
  have hp8 : p ≤ 8 := by omega
  clear hd hp hz k1 k2 n2 hs hc
  go_enter Try.func53, Try.ntmps53
  go_upto_region 2 with (go_at_call 32; (with_reducible refine RC.out.mono ?_); rintro e w1 ⟨A8, c8, rfl, hr8, hb⟩; have HR8 := Lib.hid hr8; have HB := Lib.hid hb; clear hr8 hb)
  obtain ⟨ad, rfl, hcl⟩ := HG.out w1 A8 c8 w.heap.size HR8.out
  have hdd : ((d : Int)).tdiv 2 = (p : Int) := by rw [Int.tdiv_eq_ediv_of_nonneg (by omega)]; exact e1
  have hdw : IntKind.i64.wrap (p : Int) = (p : Int) := IntWalk.i64_in _ (by omega)
  go_wp2
  go_ret
  exact ⟨rfl, HB.out⟩
theorem zrow_calls (v : Value) (d i : Nat) (Z : Mtx) (w : World) (h : Mat.IsMat w v d d (Mat.flat (mat d d Z))) (hi : i < d) :
    Calls Try.prog 54 #[v, .int .i64 i] w fun e w' => ∃ A c, e = .returned (.slice A d c) ∧ Kd.R (Kd.int .u8) 5 w' w.heap.size (fun k => w.heap.size ≤ k) (.slice A d c) (line d (Z i)) ∧ Below w.heap.size w w' := by
  refine (Mat.row_in v d d _ i w h hi).mono ?_
  rintro e w' ⟨u, rfl, ho, hb⟩
  have e1 : Mat.rowOf d (Mat.flat (mat d d Z)) i = line d (Z i) := by
    rw [Mat.rowOf_flat d (mat d d Z) (fun l hl => by
      obtain ⟨j, _, rfl⟩ := List.mem_map.1 hl
      exact line_len _ _) i (by rw [mat_len]; exact hi), mat_get d d Z i hi]
  rw [e1] at ho
  obtain ⟨A, c, rfl⟩ := own_slice ho
  have hR : Kd.R (Kd.int .u8) 5 w' w.heap.size (fun _ => True) (.slice A d c) (line d (Z i)) := Kd.R_of_own (by rw [line_len]; exact ho) (fun _ _ => trivial)
  exact ⟨A, c, rfl, Kd.R_mono (Kd.R_bound hR) (fun k hk => hk.2.1), hb⟩
theorem cell_of {W : World} {base g n cap : Nat} {ok : Nat → Prop} {f : Nat → Int} (h : (Kd.int .u8).R 5 W base ok (.slice (some ⟨g, 0, none⟩) n cap) (line n f)) (i : Nat) (hi : i < n) : W.cell? ⟨g, i, none⟩ = some (.int .u8 (f i)) ∧ W.frozen? ⟨g, i, none⟩ = false := by
  obtain ⟨x1, x2⟩ := Kd.R_celln (0 : Int) h (i : Int) (by omega) (by omega)
  have x3 : rdOf (0 : Int) (line n f) (i : Int) = f i := by
    rw [← line_get n f i hi]; simp [rdOf]
  rw [x3, Int.toNat_natCast] at x1
  rw [Int.toNat_natCast] at x2
  exact ⟨x1, x2⟩
theorem put_of {W : World} {base g n cap : Nat} {ok : Nat → Prop} {xs : List Int} (h : (Kd.int .u8).R 5 W base ok (.slice (some ⟨g, 0, none⟩) n cap) xs) (i : Nat) (x : Int) : (Kd.int .u8).R 5 (W.setCell ⟨g, i, none⟩ (.int .u8 x)) base ok (.slice (some ⟨g, 0, none⟩) n cap) (xs.set i x) := by
  have := Kd.R_putn h (i : Int) x
  simp only [Int.toNat_natCast] at this
  exact this
theorem row_cell {W : World} {base n c : Nat} {ok : Nat → Prop} {A : Option Addr} {f : Nat → Int} (h : (Kd.int .u8).R 5 W base ok (.slice A n c) (line n f)) (i : Nat) (hi : i < n) : ∃ ad, A = some ad ∧ W.cell? (ad.add i) = some (.int .u8 (f i)) := by
  have hC := (Kd.R_reads' h).2.2
  rw [line_len] at hC
  obtain ⟨ad, e, hc⟩ := Sol.at_row hC i hi
  rw [line_get n f i hi] at hc
  exact ⟨ad, e, hc⟩
theorem row_far {W : World} {base n c g i : Nat} {A : Option Addr} {xs : List Int} (h : (Kd.int .u8).R 5 W base (fun k => base ≤ k) (.slice A n c) xs) (hg : g < base) (u : Value) : (Kd.int .u8).R 5 (W.setCell ⟨g, i, none⟩ u) base (fun k => base ≤ k) (.slice A n c) xs :=
  Kd.R_far h (fun k hk => by (show k ≠ g); omega) u
def outT (x : Nat → List Int) (P : Nat) (Z : Mtx) (F : Int) (j i q : Nat) : Int := dotN (fun t => (x t).getD i 0) (fun t => mixY P Z F j t) q
set_option maxRecDepth 100000 in
set_option maxHeartbeats 8000000 in
theorem fold_any (v vi : Value) (n k lost sz d c : Nat) (A3 : Option Addr) (x : Nat → List Int) (Z : Mtx) (w : World) (hc : IsCodeP w v n k) (k1 : 2 ≤ k) (k2 : k ≤ 8) (n2 : n ≤ 24) (hl : lost < n) (hd : d = 2 * k - 2)
    (hZ : Mat.IsMat w vi d d (Mat.flat (mat d d Z))) (hZb : BytM Z) (hx : Kd.C kRow w A3 d (rowsX x d)) (hxl : ∀ q, q < d → (x q).length = sz) (hxb : ∀ q i, Byt ((x q).getD i 0)) (hs1 : 1 ≤ sz) (hs2 : sz ≤ 100) :
    Calls Try.prog 35 #[v, .int .i64 lost, vi, .slice A3 d c] w fun e w' => ∃ A c', e = .returned (.slice A ((k - 1) * sz) c') ∧ (Kd.int .u8).R 5 w' w.heap.size (fun _ => True) (.slice A ((k - 1) * sz) c')
      (line ((k - 1) * sz) (fun pos => outT x (k - 1) Z ((gp (ptN n k lost) (k - 1) : Nat) : Int) (pos / sz) (pos % sz) d)) ∧ Below w.heap.size w w' := by
  have FA := Lib.hid (fun W (hB : Below w.heap.size w W) => factor_any v n k lost W (hc.below hB) k1 k2 n2 hl)
  have PP := Lib.hid (fun W (hB : Below w.heap.size w W) => parts_any v n k W (hc.below hB).code (by omega) (by omega))
  obtain ⟨F, hF⟩ : ∃ F, F = ((gp (ptN n k lost) (k - 1) : Nat) : Int) := ⟨_, rfl⟩
  have HFB := Lib.hid (show Byt F by rw [hF]; exact Str.gp_byt _ _ (ptN_lt n k lost))
  rw [← hF] at FA ⊢
  obtain ⟨P, hP⟩ : ∃ P, P = k - 1 := ⟨_, rfl⟩
  rw [← hP] at PP ⊢
  have hP1 : 1 ≤ P := by omega
  have hP7 : P ≤ 7 := by omega
  have hdP : d = P + P := by omega
  have RZ := Lib.hid (fun i W (hi : i < d) (hB : Below w.heap.size w W) => zrow_calls vi d i Z W (hZ.below hB) hi)
  have HX := Lib.hid (fun W (hB : Below w.heap.size w W) q (hq : q < d) => show ∃ ad A0 c0, A3 = some ad ∧ W.cell? (ad.add q) = some (.slice A0 sz c0) ∧ (Kd.int .u8).C W A0 sz (x q) by
    obtain ⟨ad, A0, c0, e, h1, h2, h3⟩ := rowsN_get (Kd.C_below hx hB) q hq
    rw [rowsX_get x d q hq, hxl q hq] at h1 h3
    exact ⟨ad, A0, c0, e, h1, h3⟩)
  have HXB := Lib.hid hxb
  have HZB := Lib.hid hZb
  have HT0 := Lib.hid (fun j i => show outT x P Z F j i 0 = 0 from rfl)
  have HTS := Lib.hid (fun j i q => show outT x P Z F j i (q + 1) = xorI (outT x P Z F j i q) (gmI ((x q).getD i 0) (mixY P Z F j q)) from rfl)
  have HTB := Lib.hid (fun j i q => show Byt (outT x P Z F j i q) from dotN_byt (fun t => hxb t i) q)
  have hsz : P * sz ≤ 700 := Nat.mul_le_mul hP7 hs2
  have hsz1 : 1 ≤ P * sz := Nat.mul_pos hP1 hs1
  obtain ⟨L, hL⟩ : ∃ L, L = P * sz := ⟨_, rfl⟩
  rw [← hL] at hsz hsz1 ⊢
  have HL := Lib.hid hL
  have eL : IntKind.i64.wrap ((P : Int) * (sz : Int)) = (L : Int) := by rw [hL, ← Int.natCast_mul]; exact IntWalk.i64_in _ (by omega)
  have HD := Lib.hid hdP
  have hd16 : d ≤ 14 := by omega
  clear hc k1 k2 n2 hl hd hZ hZb hx hxl hxb hF hP hL hdP
  obtain ⟨ad3, A0, c0, rfl, hcell0, _⟩ := HX.out w (Below.refl _ _) 0 (by have := HD.out; omega)
  rw [show ad3.add 0 = ad3 by simp [Addr.add]] at hcell0
  go_enter Try.func35, Try.ntmps35
  have gd : (0 : Int) < (d : Int) := by have := HD.out; omega
  go_upto_region 5 with (first
    | (go_at_call 23; (first | (with_reducible refine (PP.out _ (Below.refl _ _)).mono ?_) | (with_reducible refine (PP.out _ HB1.out).mono ?_)); rintro e u1 ⟨rfl, hu⟩; have hu' := hu.symm; subst hu'; clear hu)
    | (at_make; refine Kd.R_make (Kd.int .u8) w.heap.size 5 rfl (N := 27) rfl 22 _ _ rfl (L : Int) rfl rfl Try.underlying22 (.int .u8 0) 1 Go.Proofs.Ytcnfafappcbpnaa.Rws.info_byte rfl (by decide) (by decide) 0 (ok := fun _ => True) (okp := fun _ => True) rfl (fun _ hk => hk) trivial (by omega) (by omega) (Below.refl _ _) (Nat.le_refl _) ?_; intro v3 w3 h3 hb3 hg3 hf3; simp only [Int.toNat_natCast] at h3; obtain ⟨g, c3, hv3, hgb, _, _⟩ := Kd.R_form h3 (by rw [List.length_replicate]; exact hsz1); rw [List.length_replicate] at hv3; subst hv3; have HR0 := Lib.hid h3; have HB0 := Lib.hid hb3; have HGB := Lib.hid hgb; clear h3 hb3 hg3 hf3 hgb)
    | (go_at_call 53; (with_reducible refine (FA.out _ HB0.out).mono ?_); rintro e w4 ⟨rfl, hb⟩; have HB1 := Lib.hid (HB0.out.trans (hb.mono HB0.out.size)); have HR1 := Lib.hid (Kd.R_below HR0.out hb); clear hb HR0 HB0))
  have HR2 := Lib.hid (show (Kd.int .u8).R 5 w4 w.heap.size (fun _ => True) (.slice (some ⟨g, 0, none⟩) L c3) (line L (FF sz (outT x P Z F) d 0 0 0)) by rw [FF_start sz d L _ HT0.out]; exact HR1.out)
  clear HR1 hcell0 FA
  go_loopw [12, 13, 14, 15, 16, 17, 18, 33, 47, 64] (fun _ _ _ _ _ _ _ av _ _ wr => ∃ (a : Nat), a ≤ P ∧ av = .int .i64 a ∧ Hid ((Kd.int .u8).R 5 wr w.heap.size (fun _ => True) (.slice (some ⟨g, 0, none⟩) L c3) (line L (FF sz (outT x P Z F) d a 0 0))) ∧ Hid (Below w.heap.size w wr)) (fun _ _ _ _ _ _ _ av _ _ _ => P - (intOf av).toNat)
  case atStart => exact ⟨0, by omega, rfl, HR2, HB1⟩
  case round =>
    clear HR2 HB1
    obtain ⟨a, ha, rfl, HR, HB⟩ := hrel
    by_cases haP : a < P
    · have g1 : (a : Int) < (P : Int) := by omega
      have g2 : (0 : Int) ≤ (a : Int) := by omega
      have R1 := Lib.hid (fun W (hB : Below w.heap.size w W) => RZ.out a W (by have := HD.out; omega) hB)
      have r2 := fun W (hB : Below w.heap.size w W) => RZ.out (a + P) W (by have := HD.out; omega) hB
      simp only [Int.natCast_add] at r2
      have R2 := Lib.hid r2
      clear r2
      obtain ⟨x1, hx1⟩ : ∃ x1, x1 = wr := ⟨_, rfl⟩
      rw [← hx1] at HR HB ⊢
      clear hx1
      have HGL := Lib.hid (show g < x1.heap.size from Kd.R_lt HR.out g rfl)
      go_upto_region 8 with (first
        | (go_at_call 54; (with_reducible refine (R1.out _ HB.out).mono ?_); rintro e w5 ⟨A13, c13, rfl, hr, hb⟩; have HO := Lib.hid hr; have HB5 := Lib.hid hb; clear hr hb)
        | (go_at_call 23; (with_reducible refine (PP.out _ (HB.out.trans (HB5.out.mono HB.out.size))).mono ?_); rintro e u1 ⟨rfl, hu⟩; have hu' := hu.symm; subst hu'; clear hu)
        | (go_at_call 54; (with_reducible refine (R2.out _ (HB.out.trans (HB5.out.mono HB.out.size))).mono ?_); rintro e w6 ⟨A14, c14, rfl, hr, hb⟩; have HT := Lib.hid (show Kd.R (Kd.int .u8) 5 w6 x1.heap.size (fun k => x1.heap.size ≤ k) (.slice A14 d c14) (line d (Z (a + P))) from Kd.R_mono (Kd.R_lower hr HB5.out.size) (fun k hk => Nat.le_trans HB5.out.size hk)); have HO2 := Lib.hid (Kd.R_below HO.out hb); have HB6 := Lib.hid (HB5.out.trans (hb.mono HB5.out.size)); clear hr hb HO HB5))
      have HR6 := Lib.hid (Kd.R_below HR.out HB6.out)
      have HBw := Lib.hid (HB.out.trans (HB6.out.mono HB.out.size))
      have HGX := Lib.hid (show w.heap.size ≤ x1.heap.size from HB.out.size)
      clear HR HB HB6 R1 R2
      go_wp2
      go_loopw [15, 16, 17, 18, 47, 64] (fun _ _ _ _ qv _ wr => ∃ (q : Nat), q ≤ d ∧ qv = .int .i64 q ∧ Hid ((Kd.int .u8).R 5 wr w.heap.size (fun _ => True) (.slice (some ⟨g, 0, none⟩) L c3) (line L (FF sz (outT x P Z F) d a q 0))) ∧ Hid (Kd.R (Kd.int .u8) 5 wr x1.heap.size (fun k => x1.heap.size ≤ k) (.slice A13 d c13) (line d (Z a))) ∧ Hid (Kd.R (Kd.int .u8) 5 wr x1.heap.size (fun k => x1.heap.size ≤ k) (.slice A14 d c14) (line d (Z (a + P)))) ∧ Hid (Below w.heap.size w wr)) (fun _ _ _ _ qv _ _ => d - (intOf qv).toNat)
      case atStart => exact ⟨0, by omega, rfl, HR6, HO2, HT, HBw⟩
      case round =>
        clear HR6 HO2 HT HBw
        obtain ⟨q, hq, rfl, HR, HO, HT, HB⟩ := hrel
        by_cases hqd : q < d
        · have g3 : (q : Int) < (d : Int) := by omega
          have g4 : (0 : Int) ≤ (q : Int) := by omega
          obtain ⟨ad9, A16, c16, e9, hcellw, hC16⟩ := HX.out w (Below.refl _ _) q hqd
          have hcell := pw_cell_below HB.out hcellw
          injection e9 with e9
          subst e9
          obtain ⟨ad13, rfl, h13⟩ := row_cell HO.out q hqd
          obtain ⟨ad14, rfl, h14⟩ := row_cell HT.out q hqd
          obtain ⟨ad16, rfl, _⟩ := Sol.at_row hC16 0 (by omega)
          have HXC := Lib.hid (fun W (hB : Below w.heap.size w W) i (hi : i < sz) => show W.cell? (ad16.add i) = some (.int .u8 ((x q).getD i 0)) by
            obtain ⟨ad8, e8, h8⟩ := Sol.at_row (Kd.C_below hC16 hB) i hi
            injection e8 with e8
            rw [← e8] at h8
            exact h8)
          have HZ1 := Lib.hid (HZB.out a q)
          have HZ2 := Lib.hid (HZB.out (a + P) q)
          have HMY := Lib.hid (show mixY P Z F a q = xorI (Z a q) (gmI (Z (a + P) q) F) from rfl)
          obtain ⟨z1, hz1⟩ : ∃ z1, z1 = Z a q := ⟨_, rfl⟩
          obtain ⟨z2, hz2⟩ : ∃ z2, z2 = Z (a + P) q := ⟨_, rfl⟩
          rw [← hz1] at h13 HZ1 HMY
          rw [← hz2] at h14 HZ2 HMY
          have ML := Lib.hid (fun W => mul_still z2 F W HZ2.out HFB.out)
          have AD := Lib.hid (fun W => add_still z1 (gmI z2 F) W HZ1.out (gmI_byt HZ2.out))
          have HYB := Lib.hid (show Byt (mixY P Z F a q) by rw [HMY.out]; exact xorI_byt HZ1.out (gmI_byt HZ2.out))
          rw [← HMY.out] at AD
          obtain ⟨y, hy⟩ : ∃ y, y = mixY P Z F a q := ⟨_, rfl⟩
          rw [← hy] at AD HYB
          have HY := Lib.hid hy
          clear hz1 hz2 hy hC16 HMY hcellw
          go_upto_region 11 with (fail)
          go_quiet (first
            | (go_at_call 26; exact Calls.quiet_of_same (ML.out _))
            | (go_at_call 25; exact Calls.quiet_of_same (AD.out _)))
          clear h13 h14 ML AD
          have HRd := Lib.hid (fun j => Kd.R_drewN HR.out j)
          have HOd := Lib.hid (fun j => Kd.R_drewN HO.out j)
          have HTd := Lib.hid (fun j => Kd.R_drewN HT.out j)
          have HBd := Lib.hid (fun j => pw_below_drewN HB.out j)
          clear HR HO HT HB hcell
          go_wp2
          go_loopw [18, 64] (fun _ iv wr => ∃ (i : Nat), i ≤ sz ∧ iv = .int .i64 i ∧ Hid ((Kd.int .u8).R 5 wr w.heap.size (fun _ => True) (.slice (some ⟨g, 0, none⟩) L c3) (line L (FF sz (outT x P Z F) d a q i))) ∧ Hid (Kd.R (Kd.int .u8) 5 wr x1.heap.size (fun k => x1.heap.size ≤ k) (.slice (some ad13) d c13) (line d (Z a))) ∧ Hid (Kd.R (Kd.int .u8) 5 wr x1.heap.size (fun k => x1.heap.size ≤ k) (.slice (some ad14) d c14) (line d (Z (a + P)))) ∧ Hid (Below w.heap.size w wr)) (fun _ iv _ => sz - (intOf iv).toNat)
          case atStart => exact ⟨0, by omega, rfl, Lib.hid (HRd.out _), Lib.hid (HOd.out _), Lib.hid (HTd.out _), Lib.hid (HBd.out _)⟩
          case round =>
            clear HRd HOd HTd HBd
            obtain ⟨i, hi, rfl, HR, HO, HT, HB⟩ := hrel
            by_cases his : i < sz
            · have g5 : (i : Int) < (sz : Int) := by omega
              have g6 : (0 : Int) ≤ (i : Int) := by omega
              have hle : a * sz + sz ≤ L := by rw [HL.out, ← suc_mul]; exact Nat.mul_le_mul_right sz haP
              obtain ⟨m, hm⟩ : ∃ m, m = a * sz := ⟨_, rfl⟩
              have e3 : IntKind.i64.wrap ((a : Int) * (sz : Int)) = (m : Int) := by rw [hm, ← Int.natCast_mul]; exact IntWalk.i64_in _ (by omega)
              have hstp := FF_step sz d a q i L (outT x P Z F) his (by omega)
              have hget := FF_get sz d a q i (outT x P Z F) his
              rw [HTS.out] at hstp
              rw [← hm] at hstp hget hle
              obtain ⟨p, hp⟩ : ∃ p, p = m + i := ⟨_, rfl⟩
              have e4 : IntKind.i64.wrap ((m : Int) + (i : Int)) = (p : Int) := by rw [IntWalk.i64_in _ (by omega)]; omega
              have e4' : (m : Int) + (i : Int) = (p : Int) := by omega
              rw [← hp] at hstp hget
              have g7 : (p : Int) < (L : Int) := by omega
              have g8 : (0 : Int) ≤ (p : Int) := by omega
              obtain ⟨x1', x2'⟩ := cell_of HR.out p (by omega)
              rw [hget] at x1'
              have hxc := HXC.out wr HB.out i his
              have HYO := Lib.hid (HTB.out a i q)
              have HXO := Lib.hid (HXB.out q i)
              have hpn := fun j => put_of (Kd.R_drewN HR.out j) p (xorI (outT x P Z F a i q) (gmI ((x q).getD i 0) (mixY P Z F a q)))
              simp only [hstp] at hpn
              rw [← HY.out] at hpn
              obtain ⟨o, ho⟩ : ∃ o, o = outT x P Z F a i q := ⟨_, rfl⟩
              obtain ⟨b, hb⟩ : ∃ b, b = (x q).getD i 0 := ⟨_, rfl⟩
              rw [← ho] at x1' HYO hpn
              rw [← hb] at hxc HXO hpn
              have HPN := Lib.hid hpn
              have HBn := Lib.hid (fun j => (pw_below_drewN HB.out j).setCell (p := ⟨g, p, none⟩) HGB.out (.int .u8 (xorI o (gmI b y))))
              have HOn := Lib.hid (fun j => row_far (Kd.R_drewN HO.out j) HGL.out (i := p) (.int .u8 (xorI o (gmI b y))))
              have HTn := Lib.hid (fun j => row_far (Kd.R_drewN HT.out j) HGL.out (i := p) (.int .u8 (xorI o (gmI b y))))
              have HE := Lib.hid e4'
              clear hstp hget hm hp ho hb hpn hle e4'
              go_wp2
              refine wp_region_still_tail 22 (by kernel_rfl) (by kernel_rfl) ?_
              change wpStill _ _ (wr.drewN 1) (fun a' => wpList _ _ _ _ a' (wr.drewN 1)) _ _
              simp only [List.take_succ_cons, List.take_zero, List.drop_succ_cons, List.drop_zero]
              iterate 19 still_step
              still_call (mul_still b y (wr.drewN 1) HXO.out HYB.out)
              still_call (add_still o (gmI b y) (wr.drewN 1) HYO.out (gmI_byt HXO.out))
              still_step
              refine wpStill_nil ?_
              go_wp2
              go_roundw
              case rel => exact ⟨i + 1, by omega, by go_num, Lib.hid (HPN.out 1), Lib.hid (HOn.out 1), Lib.hid (HTn.out 1), Lib.hid (HBn.out 1)⟩
              case measure => simp [intOf]; omega
            · obtain rfl : i = sz := by omega
              have hr := HR.out
              rw [FF_row] at hr
              have HRn := Lib.hid hr
              clear hr
              go_wp2
              go_roundw
              case rel => exact ⟨q + 1, by omega, by go_num, HRn, HO, HT, HB⟩
              case measure => simp [intOf]; omega
        · obtain rfl : q = d := by omega
          have hr := HR.out
          rw [FF_next sz q a L _ HT0.out (by omega)] at hr
          have HRn := Lib.hid hr
          clear hr
          go_wp2
          go_roundw
          case rel => exact ⟨a + 1, by omega, by go_num, HRn, HB⟩
          case measure => simp [intOf]; omega
    · obtain rfl : a = P := by omega
      have hr := HR.out
      rw [HL.out, FF_end, ← HL.out] at hr
      have HRn := Lib.hid hr
      clear hr
      go_wp2
      go_ret
      exact ⟨_, _, rfl, HRn.out, HB.out⟩
abbrev But (v : Value) : Nat → Prop := fun k => True ∧ some k ≠ v.ownBlock
theorem rows_appendS {P : Program} {ops : Array Oper} {rest : List Oper} {o : Oper} {a : Act} {Q : Exit → Act → World → Prop} {w0 W wr : World} (hP : P = Try.prog) (base : Nat) (hgd : o.guard = none) (s x : Operand)
    (ho : o.op = .call { callee := .builtin .append, args := #[s, x], argTypes := #[39, 39] }) (v u dv : Value) (ls : List (List Int)) (ys : List Int) (hh : List Hd)
    (hs : a.eval s = v) (hx : a.eval x = .slice (some ⟨W.heap.size, 0, none⟩) 1 1) (HR : Kd.R kRow 22 wr base (But dv) v ls) (HD : Kd.R kH 22 wr base (But v) dv hh) (HB : Below base w0 W) (hbase : base ≤ wr.heap.size) (hB : Below wr.heap.size wr W)
    (hu : (Kd.int .u8).R 5 W wr.heap.size (fun _ => True) u ys) (hl : ls.length ≤ 1000000)
    (h : ∀ v1 w1, Kd.R kRow 22 w1 base (But dv) v1 (ls ++ [ys]) → Kd.R kH 22 w1 base (But v1) dv hh → Below base w0 w1 → W.grownBy w1 v.ownBlock → wpList P ops Q rest (a.put o.dst v1) w1) :
    wpList P ops Q (o :: rest) a (W.alloc (.cells #[u] 22)) := by
  subst hP
  have hown : W.ownsRow wr.heap.size 5 1 u ys.length (nums .u8 ys) := Kd.own_of_R hu
  have HDW := Kd.R_below HD hB
  refine Kd.R_append kRow (w0 := w0) base hgd s x 39 22 (.slice none 0 0) 24 ho Try.underlying39 info_rows rfl (by decide) (by decide) v ls ys [u] (But dv)
    (fun k => some k = u.ownBlock) hs hx (row_M hown hbase rfl) ?_ (fun k hk => ⟨trivial, Kd.fresh_ok HDW k hk⟩) (Kd.R_below HR hB) HB (Nat.le_trans hbase hB.size) (by omega) (fun v1 w1 h1 h2 h3 h4 => h v1 w1 h1 (Kd.R_after HDW h3 h4) h2 h3)
  intro k hk
  have h1 := own_base hown k hk.symm
  refine ⟨⟨trivial, fun e => ?_⟩, fun e => ?_⟩
  · have := Kd.R_lt HD k e.symm
    omega
  · have := Kd.R_lt HR k e.symm
    omega
theorem heads_appendS {P : Program} {ops : Array Oper} {rest : List Oper} {o : Oper} {a : Act} {Q : Exit → Act → World → Prop} {w0 W : World} (hP : P = Try.prog) (base : Nat) (hgd : o.guard = none) (s x : Operand)
    (ho : o.op = .call { callee := .builtin .append, args := #[s, x], argTypes := #[39, 39] }) (v dv : Value) (ls : List (List Int)) (hh : List Hd) (p : Hd)
    (hs : a.eval s = dv) (hx : a.eval x = .slice (some ⟨W.heap.size, 0, none⟩) 1 1) (HR : Kd.R kRow 22 W base (But dv) v ls) (HD : Kd.R kH 22 W base (But v) dv hh) (HB : Below base w0 W) (hbase : base ≤ W.heap.size) (hl : hh.length ≤ 1000000)
    (h : ∀ d1 w1, Kd.R kRow 22 w1 base (But d1) v ls → Kd.R kH 22 w1 base (But v) d1 (hh ++ [p]) → Below base w0 w1 → wpList P ops Q rest (a.put o.dst d1) w1) :
    wpList P ops Q (o :: rest) a (W.alloc (.cells #[.slice p.1 p.2.1 p.2.2] 22)) := by
  subst hP
  exact Kd.R_append kH (w0 := w0) base hgd s x 39 22 (.slice none 0 0) 24 ho Try.underlying39 info_rows rfl (show 0 < 1 from Nat.one_pos) (by decide) dv hh p [.slice p.1 p.2.1 p.2.2] (But v)
    (fun _ => False) hs hx rfl (fun _ hk => hk.elim) (fun k hk => ⟨trivial, Kd.fresh_ok HR k hk⟩) HD HB hbase (by omega) (fun d1 w1 h1 h2 h3 h4 => h d1 w1 (Kd.R_after HR h3 h4) h1 h2)
structure RgArgs (v : Value) (n k N : Nat) (A : Option Addr) (s : Nat → Int) (h : Nat → Hd) (x : Nat → List Int) (m : Nat → Nat) (w : World) : Prop where
  hc : IsCodeP w v n k
  k1 : 2 ≤ k
  k2 : k ≤ 8
  n2 : n ≤ 24
  hp : PA w A N s h x
  hm : ∀ i, (x i).length = m i
  hN : N ≤ 100
def ptS (n k : Nat) (s : Nat → Int) (i : Nat) : Nat := ptN n k (s i).toNat
theorem ptS_inj {n k d N : Nat} {s : Nat → Int} {m : Nat → Nat} (k1 : 2 ≤ k) (k2 : k ≤ 8) (n2 : n ≤ 24) (hok : okTo n s m N) (hd : d ≤ N) (i j : Nat) (hi : i < d) (hj : j < d) (h : ptS n k s i = ptS n k s j) : i = j := by
  have hi' := hok i (by omega)
  have hj' := hok j (by omega)
  have h1 := pt_inj n k _ _ k1 k2 n2 (by have := hi'.1; have := hi'.2.1; omega) (by have := hj'.1; have := hj'.2.1; omega) h
  rcases Nat.lt_trichotomy i j with hh | hh | hh
  · exact absurd (show s i = s j by have := hi'.1; have := hj'.1; omega) (hj'.2.2.2.2 i hh)
  · exact hh
  · exact absurd (show s j = s i by have := hi'.1; have := hj'.1; omega) (hi'.2.2.2.2 j hh)
def RegenPost (n k d sz lost : Nat) (s : Nat → Int) (x : Nat → List Int) (w : World) (e : Ending) (w' : World) : Prop :=
  ∃ Z A c', BytM Z ∧ (∀ i, i < d → ∀ q, q < d → dotF d (el (powM (ptS n k s)) i) (fun j => G.of (Z j q)) = G.of (idM i q)) ∧ e = .returned (.tuple #[.slice A ((k - 1) * sz) c', .int .i64 0]) ∧
    (Kd.int .u8).R 5 w' w.heap.size (fun _ => True) (.slice A ((k - 1) * sz) c') (line ((k - 1) * sz) (fun pos => outT x (k - 1) Z ((gp (ptN n k lost) (k - 1) : Nat) : Int) (pos / sz) (pos % sz) d)) ∧ Below w.heap.size w w'
set_option maxRecDepth 100000 in
set_option maxHeartbeats 8000000 in
theorem regen_good (v : Value) (n k N c lost sz : Nat) (A : Option Addr) (s : Nat → Int) (h : Nat → Hd) (x : Nat → List Int) (m : Nat → Nat) (w : World) (ha : RgArgs v n k N A s h x m w) (hl : lost < n) (hg : okTo n s m N ∧ ∀ i, i < N → s i ≠ (lost : Int)) (hN : 2 * k - 2 ≤ N) (hNc : N ≤ c)
    (hsz : m 0 = sz) (hsz2 : sz ≤ 100) (hxb : ∀ q i, Byt ((x q).getD i 0)) :
    Calls Try.prog 14 #[v, .int .i64 lost, .slice A N c] w (RegenPost n k (2 * k - 2) sz lost s x w) := by
  have HN := Lib.hid (n_any v n k w ha.hc.code)
  have HH := Lib.hid (fun W (hB : Below w.heap.size w W) => helpers_any v n k W (ha.hc.below hB).code (by have := ha.k1; omega) (by have := ha.k2; omega))
  have RB := Lib.hid (show Calls Try.prog 31 #[v, .int .i64 lost, .slice A N c] w fun e w' => e = .returned (.bool true) ∧ Below w.heap.size w w' from (right_any v n k N c lost A s h x w ha.hc.code ha.hp m ha.hm ha.hN ha.n2).mono (by
    rintro e w' ⟨bb, rfl, hbb, hB⟩
    refine ⟨?_, hB⟩
    rw [hbb.2 hg]))
  have k1 := ha.k1
  have k2 := ha.k2
  have n2 := ha.n2
  have hN100 := ha.hN
  have RO := Lib.hid (fun W (hB : Below w.heap.size w W) i (hi : i < N) => show Calls Try.prog 32 #[v, .int .i64 (s i)] W fun e w' => ∃ A c, e = .returned (.slice A (2 * k - 2) c) ∧ Kd.R (Kd.int .u8) 5 w' W.heap.size (fun _ => True) (.slice A (2 * k - 2) c) (line (2 * k - 2) (powM (ptS n k s) i)) ∧ Below W.heap.size W w' by
    have h0 := hg.1 i hi
    have h1 := row_any v n k (s i).toNat W (ha.hc.below hB) k1 k2 n2 (by have := h0.1; have := h0.2.1; omega)
    rw [show (((s i).toNat : Nat) : Int) = s i by have := h0.1; omega] at h1
    exact h1)
  have HP := Lib.hid (fun W (hB : Below w.heap.size w W) => (ha.hp.below hB).fewer hN)
  have HXL := Lib.hid (fun q (hq : q < 2 * k - 2) => show (x q).length = sz by rw [ha.hm, (hg.1 q (by omega)).2.2.2.1, hsz])
  have hs1 : 1 ≤ sz := by have := (hg.1 0 (by omega)).2.2.1; omega
  have HInj := Lib.hid (ptS_inj (n := n) (k := k) (d := 2 * k - 2) k1 k2 n2 hg.1 hN)
  have HFB := Lib.hid (fun i => ptN_lt n k (s i).toNat)
  have FO := Lib.hid (fun W vi c A3 Z (hB : Below w.heap.size w W) hZ hZb hx => fold_any v vi n k lost sz (2 * k - 2) c A3 x Z W (ha.hc.below hB) k1 k2 n2 hl rfl hZ hZb hx HXL.out hxb hs1 hsz2)
  obtain ⟨adA, rfl, _⟩ := ha.hp 0 (by omega)
  obtain ⟨b, A1, c1, rfl, _⟩ := ha.hc
  have g1 : ¬ (n : Int) ≤ (lost : Int) := by omega
  have g2 : decide ((lost : Int) < 0) = false := by simp
  have g3 : ¬ (N : Int) < ((2 * k - 2 : Nat) : Int) := by omega
  have g9 : ((2 * k - 2 : Nat) : Int) ≤ (N : Int) := by omega
  have g10 : ((2 * k - 2 : Nat) : Int) ≤ (c : Int) := by omega
  have g11 : (0 : Int) ≤ ((2 * k - 2 : Nat) : Int) := by omega
  obtain ⟨f, hf⟩ : ∃ f, f = ptS n k s := ⟨_, rfl⟩
  have HFB2 := Lib.hid (show ∀ i, f i < 256 by intro i; rw [hf]; exact HFB.out i)
  rw [← hf] at RO
  have HInj2 := Lib.hid (show ∀ i j, i < 2 * k - 2 → j < 2 * k - 2 → f i = f j → i = j by rw [hf]; exact HInj.out)
  have HF := Lib.hid hf
  have HKD := Lib.hid (show 2 * k - 2 ≤ 14 ∧ 2 ≤ 2 * k - 2 by omega)
  have HDI := Lib.hid (show 2 * k - 2 ≤ N from hN)
  obtain ⟨d, hd⟩ : ∃ d, d = 2 * k - 2 := ⟨_, rfl⟩
  rw [← hd] at HH g3 g9 g10 g11 RO HP HXL HInj2 FO HKD HDI ⊢
  have hd14 := HKD.out.1
  have hd2 := HKD.out.2
  have HDK := Lib.hid hd
  clear ha hg hN hNc hsz hxb hf HInj HFB hd k1 k2 n2 hl
  go_enter Try.func14, Try.ntmps14
  go_upto_region 6 with (first
    | (go_at_call 22; (with_reducible refine HN.out.mono ?_); rintro e u ⟨rfl, hu⟩; have hu' := hu.symm; subst hu'; clear hu)
    | (go_at_call 31; (with_reducible refine RB.out.mono ?_); rintro e w1 ⟨rfl, hb⟩; have HB1 := Lib.hid hb; clear hb)
    | (go_at_call 27; (with_reducible refine (HH.out _ HB1.out).mono ?_); rintro e u ⟨rfl, hu⟩; have hu' := hu.symm; subst hu'; clear hu))
  have HB0 := HB1
  clear HB1 RB HN HH
  have HA := Lib.hid (fun W (hB : Below w.heap.size w W) i (hi : i < d) => show W.cell? (adA.add (i * 2)) = some (.int .i64 (s i)) ∧ W.cell? ⟨(adA.add (i * 2)).block, (adA.add (i * 2)).off + 1, none⟩ = some (hv (h i)) by
    obtain ⟨ad, e, h1, h2, _⟩ := HP.out W hB i hi
    injection e with e
    subst e
    exact ⟨h1, h2⟩)
  go_wp2
  go_loopw [8, 9, 11, 48] (fun uv dv _ iv wr => ∃ (i : Nat) (u dd : Value), uv = u ∧ dv = dd ∧ i ≤ d ∧ iv = .int .i64 i ∧ Hid (Kd.R kRow 22 wr w.heap.size (But dd) u (mat i d (powM f))) ∧ Hid (Kd.R kH 22 wr w.heap.size (But u) dd (heads h i)) ∧ Hid (Below w.heap.size w wr)) (fun _ _ _ iv _ => d - (intOf iv).toNat)
  case atStart => exact ⟨0, _, _, rfl, rfl, by omega, rfl, Lib.hid (Kd.R_nil _ _ _ _ _), Lib.hid (Kd.R_nil _ _ _ _ _), HB0⟩
  case round =>
    clear HB0
    obtain ⟨i, u, dd, rfl, rfl, hi, rfl, HU, HD, HB⟩ := hrel
    by_cases hlt : i < d
    · have g1 : (i : Int) < (d : Int) := by omega
      have g2 : (0 : Int) ≤ (i : Int) := by omega
      obtain ⟨k1, k2⟩ := HA.out wr HB.out i hlt
      obtain ⟨⟨A2, m2, c2⟩, hh2⟩ : ∃ q, q = h i := ⟨_, rfl⟩
      rw [← hh2] at k2
      have HH2 := Lib.hid hh2
      have hk2 : wr.cell? ⟨(adA.add (i * 2)).block, (adA.add (i * 2)).off + 1, none⟩ = some (.slice A2 m2 c2) := k2
      have RI := Lib.hid (fun W (hB : Below w.heap.size w W) => RO.out W hB i (Nat.lt_of_lt_of_le hlt HDI.out))
      obtain ⟨si, hsi⟩ : ∃ si, si = s i := ⟨_, rfl⟩
      rw [← hsi] at k1 RI
      obtain ⟨W1, hW1⟩ : ∃ W1, W1 = wr.alloc (.cells #[.int .i64 si, .slice A2 m2 c2] 37) := ⟨_, rfl⟩
      have hb1 : Below wr.heap.size wr W1 := by rw [hW1]; exact (Below.refl _ _).alloc (Nat.le_refl _) _
      have HBK := Lib.hid (show Blk W1 wr.heap.size 37 #[.int .i64 si, .slice A2 m2 c2] by rw [hW1]; exact Blk.new _ _ _)
      have HW1 := Lib.hid hW1
      have HB1 := Lib.hid (HB.out.trans (hb1.mono HB.out.size))
      have HU1 := Lib.hid (Kd.R_below HU.out hb1)
      have HD1 := Lib.hid (Kd.R_below HD.out hb1)
      have HNE := Lib.hid (Kd.fresh_ok HU.out wr.heap.size (Nat.le_refl _))
      obtain ⟨b1, hb1'⟩ : ∃ b1, b1 = wr.heap.size := ⟨_, rfl⟩
      rw [← hb1'] at HBK HNE
      have HB1' := Lib.hid hb1'
      clear k2 hh2 hsi hW1 hb1 hb1' HU HD HB RO
      go_upto_region 10 with (fail)
      rw [← HW1.out, ← HB1'.out]
      clear k1 hk2 HW1 HB1'
      have c0 : W1.cell? ⟨b1, 0, none⟩ = some (.int .i64 si) := (HBK.out.cell 0).trans rfl
      go_wp2_with (first
        | (go_at_call 32; (with_reducible refine (RI.out _ HB1.out).mono ?_); rintro e w3 ⟨A8, c8, rfl, hr8, hb⟩; have HR8 := Lib.hid hr8; have HB3 := Lib.hid hb; clear hr8 hb)
        | (at_builtin; refine rows_appendS (w0 := w) (W := w3) (wr := W1) rfl w.heap.size rfl _ _ rfl u8 _ u9 _ _ _ rfl rfl HU1.out HD1.out (HB1.out.trans (HB3.out.mono HB1.out.size)) HB1.out.size HB3.out HR8.out (by rw [mat_len]; have := HKD.out; omega) ?_; intro v5 w5 h5 h6 h7 h8; have H5 := Lib.hid h5; have H6 := Lib.hid h6; have HB5 := Lib.hid h7; have c1 : w5.cell? ⟨b1, 1, none⟩ = some (.slice A2 m2 c2) := (((HBK.out.below HB3.out HBK.out.lt).grown h8 HNE.out).cell 1).trans rfl; clear h5 h6 h7 h8 c0)
        | (at_builtin; refine heads_appendS (w0 := w) (W := w5) rfl w.heap.size rfl _ _ rfl v5 u9 _ _ (A2, m2, c2) rfl rfl H5.out H6.out HB5.out HB5.out.size (by rw [Par.heads_len]; have := HKD.out; omega) ?_; intro v6 w6 h5 h6 h7; have H7 := Lib.hid h5; have H8 := Lib.hid h6; have HB6 := Lib.hid h7; clear h5 h6 h7))
      go_roundw
      case rel =>
        refine ⟨i + 1, _, _, rfl, rfl, by omega, by go_num, Lib.hid ?_, Lib.hid ?_, HB6⟩
        · rw [mat_succ]; exact H7.out
        · rw [Par.heads_succ, ← HH2.out]; exact H8.out
      case measure => simp [intOf]; omega
    · obtain rfl : d = i := by omega
      clear HA RO
      have hMb := powM_byt HFB2.out
      have hinj := powM_inj HFB2.out HInj2.out
      obtain ⟨t0, C0, hst⟩ := StepsTo.ex d hMb d
      have ht : t0 = d := by have := (hst.one hMb hinj).1; omega
      have OFC := Lib.hid (show Calls Try.prog 33 #[u8] wr fun e w' => ∃ b s cap, e = .returned (.tuple #[.pointer (some ⟨b, 0, none⟩), .int .i64 0]) ∧ Mat.MatIn w' b s d d cap (Mat.flat (mat d d (powM f))) ∧ Below wr.heap.size wr w' by
        obtain ⟨A7, c7, rfl⟩ := Kd.R_slice HU.out
        rw [mat_len]
        obtain ⟨hl, hc, hC'⟩ := Kd.R_reads' HU.out
        have e : ((mat d d (powM f)).getD 0 []).length = d := by rw [mat_get d d (powM f) 0 (by omega), line_len]
        have h := Mat.of_right A7 c7 (mat d d (powM f)) wr wr (Below.refl _ _) hC' (mat_right d d (powM f) (by omega) (by omega) (by omega) (by omega)) (mat_bytes d d hMb) (by rw [mat_len] at hl hc ⊢; omega)
        rw [mat_len, e] at h
        refine h.mono ?_
        rintro e w' ⟨b, s, cap, rfl, hm, hb, _, _⟩
        exact ⟨b, s, cap, rfl, hm, hb⟩)
      have INV := Lib.hid (fun bq sq cq W (hm : Mat.MatIn W bq sq d d cq (Mat.flat (mat d d (powM f)))) => invert_wholeE bq sq cq d t0 (powM f) C0 W hm hMb hst ht)
      have FOC := Lib.hid (fun W vi Z (hB : Below wr.heap.size wr W) (hZ : Mat.IsMat W vi d d (Mat.flat (mat d d Z))) (hZb : BytM Z) => show Calls Try.prog 35 #[.pointer (some ⟨b, 0, none⟩), .int .i64 lost, vi, u9] W fun e w' => ∃ A c', e = .returned (.slice A ((k - 1) * sz) c') ∧ (Kd.int .u8).R 5 w' W.heap.size (fun _ => True) (.slice A ((k - 1) * sz) c') (line ((k - 1) * sz) (fun pos => outT x (k - 1) Z ((gp (ptN n k lost) (k - 1) : Nat) : Int) (pos / sz) (pos % sz) d)) ∧ Below W.heap.size W w' by
        have HDW := Kd.R_below HD.out hB
        have hBW := HB.out.trans (hB.mono HB.out.size)
        obtain ⟨A7, c7, rfl⟩ := Kd.R_slice HDW
        rw [Par.heads_len]
        obtain ⟨hl, hc, hC'⟩ := Kd.R_reads' HDW
        rw [Par.heads_len] at hC'
        refine FO.out W vi c7 A7 Z hBW hZ hZb (Par.heads_C (h := h) (fun i hi => ?_) hC')
        obtain ⟨ad, e, _, _, h3, h4, h5⟩ := HP.out W hBW i hi
        exact ⟨h3, h4, h5⟩)
      clear FO HU HD hMb hinj hst ht HInj2 HFB2 HP HXL HDI
      go_wp2_with (first
        | (go_at_call 33; (with_reducible refine OFC.out.mono ?_); rintro e w3 ⟨b3, s3, cap3, rfl, hm, hb⟩; have HM3 := Lib.hid hm; have HB3 := Lib.hid hb; clear hm hb)
        | (go_at_call 34; (with_reducible refine (INV.out _ _ _ _ HM3.out).mono ?_); rintro e w4 ⟨b4, s4, cap4, Z, rfl, hm, hs, hb⟩; have HM4 := Lib.hid hm; have HS4 := Lib.hid hs; have HZ4 := Lib.hid hs.1; have HI4 : Mat.IsMat w4 (.pointer (some ⟨b4, 0, none⟩)) d d (Mat.flat (mat d d Z)) := ⟨b4, s4, cap4, rfl, hm⟩; have HI5 := Lib.hid HI4; clear HI4; have HB4 := Lib.hid (HB3.out.trans (hb.mono HB3.out.size)); clear hm hs hb)
        | (go_at_call 35; (with_reducible refine (FOC.out _ _ Z HB4.out HI5.out HZ4.out).mono ?_); rintro e w5 ⟨A5, c5, rfl, hr, hb⟩; have HR5 := Lib.hid hr; have HB5 := Lib.hid (HB.out.trans ((HB4.out.trans (hb.mono HB4.out.size)).mono HB.out.size)); clear hr hb))
      go_ret2
      exact ⟨Z, A5, c5, HS4.out.1, by rw [← HF.out]; exact HS4.out.2, rfl, Kd.R_lower HR5.out (Nat.le_trans HB.out.size HB4.out.size), HB5.out⟩
end Go.Proofs.Ytcnfafappcbpnaa.Hl
namespace Go.Proofs.Ytcnfafappcbpnaa.Hl
open Go Go.RowKit Go.Proofs.Ytcnfafappcbpnaa.Gf Go.Proofs.Ytcnfafappcbpnaa.Gi Go.Proofs.Ytcnfafappcbpnaa.Bits Go.Proofs.Ytcnfafappcbpnaa.Mem Go.Proofs.Ytcnfafappcbpnaa.Alg Go.Proofs.Ytcnfafappcbpnaa.Sol Go.Proofs.Ytcnfafappcbpnaa.VPts Go.Proofs.Ytcnfafappcbpnaa.Str Go.Proofs.Ytcnfafappcbpnaa.Rws Go.Proofs.Ytcnfafappcbpnaa.Par Go.Proofs.Ytcnfafappcbpnaa.Mdc Go.Proofs.Ytcnfafappcbpnaa.BHealFragments Go.Proofs.YtcnfafappcbpnaaW.PrintWords
set_option linter.unusedVariables false
theorem rows_appendG {α : Type} {d : Kd α} {P : Program} {ops : Array Oper} {rest : List Oper} {o : Oper} {a : Act} {Q : Exit → Act → World → Prop} {w0 W wr : World} (hP : P = Try.prog) (base : Nat) (hgd : o.guard = none) (s x : Operand)
    (ho : o.op = .call { callee := .builtin .append, args := #[s, x], argTypes := #[39, 39] }) (v u dv : Value) (ls : List (List Int)) (ys : List Int) (hh : List α)
    (hs : a.eval s = v) (hx : a.eval x = .slice (some ⟨W.heap.size, 0, none⟩) 1 1) (HR : Kd.R kRow 22 wr base (But dv) v ls) (HD : Kd.R d 22 wr base (But v) dv hh) (HB : Below base w0 W) (hbase : base ≤ wr.heap.size) (hB : Below wr.heap.size wr W)
    (hu : (Kd.int .u8).R 5 W wr.heap.size (fun _ => True) u ys) (hl : ls.length ≤ 1000000)
    (h : ∀ v1 w1, Kd.R kRow 22 w1 base (But dv) v1 (ls ++ [ys]) → Kd.R d 22 w1 base (But v1) dv hh → Below base w0 w1 → wpList P ops Q rest (a.put o.dst v1) w1) :
    wpList P ops Q (o :: rest) a (W.alloc (.cells #[u] 22)) := by
  subst hP
  have hown : W.ownsRow wr.heap.size 5 1 u ys.length (nums .u8 ys) := Kd.own_of_R hu
  have HDW := Kd.R_below HD hB
  refine Kd.R_append kRow (w0 := w0) base hgd s x 39 22 (.slice none 0 0) 24 ho Try.underlying39 info_rows rfl (by decide) (by decide) v ls ys [u] (But dv)
    (fun k => some k = u.ownBlock) hs hx (row_M hown hbase rfl) ?_ (fun k hk => ⟨trivial, Kd.fresh_ok HDW k hk⟩) (Kd.R_below HR hB) HB (Nat.le_trans hbase hB.size) (by omega) (fun v1 w1 h1 h2 h3 h4 => h v1 w1 h1 (Kd.R_after HDW h3 h4) h2)
  intro k hk
  have h1 := own_base hown k hk.symm
  refine ⟨⟨trivial, fun e => ?_⟩, fun e => ?_⟩
  · have := Kd.R_lt HD k e.symm
    omega
  · have := Kd.R_lt HR k e.symm
    omega
theorem lit1W {X : World} (b : Nat) (h : b ≤ X.heap.size) (z : Int) : (Kd.int .u8).R 5 (X.alloc (.cells #[.int .u8 z] 5)) b (fun _ => True) (.slice (some ⟨X.heap.size, 0, none⟩) 1 1) [z] :=
  Kd.R_of_own (own_lit X b 5 .u8 [z] h (by simp)) (fun _ _ => trivial)
def sk (i r : Nat) : Nat := if r < i then r else r + 1
def cnt (i J : Nat) : Nat := if J ≤ i then J else J - 1
theorem cnt_ne {i J : Nat} (h : J ≠ i) : cnt i (J + 1) = cnt i J + 1 ∧ sk i (cnt i J) = J := by
  unfold cnt sk
  split <;> split <;> split <;> omega
theorem cnt_eq (i : Nat) : cnt i (i + 1) = cnt i i := by
  unfold cnt
  rw [if_neg (by omega), if_pos (Nat.le_refl _)]
  omega
theorem cnt_all {i k : Nat} (h : i < k) : cnt i k = k - 1 := by
  unfold cnt
  rw [if_neg (by omega)]
theorem sk_ne (i r : Nat) : sk i r ≠ i := by
  unfold sk
  split <;> omega
theorem sk_lt {i r k : Nat} (h : r < k - 1) : sk i r < k := by
  unfold sk
  split <;> omega
theorem sk_inj {i r q : Nat} (h : sk i r = sk i q) : r = q := by
  unfold sk at h
  split at h <;> split at h <;> omega
set_option maxRecDepth 100000 in
set_option maxHeartbeats 8000000 in
theorem whole_any (v : Value) (n k c cp a : Nat) (A Ap : Option Addr) (s : Nat → Int) (h : Nat → Hd) (x : Nat → List Int) (P V S : Mtx) (w : World) (hc : IsCodeP w v n k) (k1 : 2 ≤ k) (k2 : k ≤ 8) (n2 : n ≤ 24) (ha : a = k - 1) (hp : PA w A k s h x) (hs : ∀ i, i < k → 0 ≤ s i ∧ s i < n)
    (hinj : ∀ i j, i < k → j < k → ptS n k s i = ptS n k s j → i = j) (hP : Kd.C kRow w Ap k (mat k k P)) (hPb : BytM P) (hVb : BytM V) (hSb : BytM S)
    (hV : ∀ i j, i < a → j < k → j ≠ i → dotF a (el (powM (ptS n k s)) j) (fun u => G.of (V i u)) = G.of (P i j)) (hS : ∀ i u, i < a → u < a → dotF a (el (powM (ptS n k s)) i) (fun r => G.of (S r u)) = G.of (V i u)) :
    Calls Try.prog 74 #[v, .slice A k c, .slice Ap k cp] w fun e w' => ∃ A' c', e = .returned (.slice A' a c') ∧ RowsR w' w.heap.size (.slice A' a c') (mat a a S) ∧ Below w.heap.size w w' := by
  obtain ⟨f, hf⟩ : ∃ f, f = ptS n k s := ⟨_, rfl⟩
  have hfb : ∀ i, f i < 256 := fun i => by rw [hf]; exact ptN_lt n k _
  have PP := Lib.hid (fun W (hB : Below w.heap.size w W) => show Calls Try.prog 23 #[v] W fun e w' => e = .returned (.int .i64 a) ∧ w' = W by
    rw [ha]
    exact parts_any v n k W (hc.below hB).code (by omega) (by omega))
  have SH := Lib.hid (fun W (hB : Below w.heap.size w W) i (hi : i < k) => show Calls Try.prog 71 #[v, .int .i64 (s i)] W fun e w' => ∃ A c, e = .returned (.slice A a c) ∧ Kd.R (Kd.int .u8) 5 w' W.heap.size (fun _ => True) (.slice A a c) (line a (powM f i)) ∧ Below W.heap.size W w' by
    have h0 := hs i hi
    have h1 := short_any v n k (s i).toNat W (hc.below hB) k1 k2 n2 (by omega)
    rw [show (((s i).toNat : Nat) : Int) = s i by omega] at h1
    rw [ha, hf]
    exact h1)
  have HPX := Lib.hid (fun W (hB : Below w.heap.size w W) i (hi : i < k) => show ∃ ad, A = some ad ∧ W.cell? (ad.add (i * 2)) = some (.int .i64 (s i)) by
    obtain ⟨ad, e, h1, _⟩ := (hp.below hB) i hi
    exact ⟨ad, e, h1⟩)
  have HPM := Lib.hid (fun W (hB : Below w.heap.size w W) => Kd.C_below hP hB)
  have SO := Lib.hid (fun W i A0 A1 c0 c1 (hi : i < a) (h0 : Kd.C kRow W A0 a (mat a a (fun r => powM f (sk i r)))) (h1 : Kd.C kRow W A1 a (mat a 1 (fun r _ => P i (sk i r)))) (l0 : a ≤ c0) (l1 : a ≤ c1) => show Calls Try.prog 80 #[.slice A0 a c0, .slice A1 a c1] W fun e w' => ∃ A c, e = .returned (.slice A a c) ∧ (Kd.int .u8).R 5 w' W.heap.size (fun _ => True) (.slice A a c) (line a (V i)) ∧ Below W.heap.size W w' from
    solved_any a c0 c1 A0 A1 (fun r => powM f (sk i r)) (fun r _ => P i (sk i r)) (fun j _ => V i j) W h0 h1 l0 l1 (by omega) (by omega) (fun r q => powM_byt hfb (sk i r) q) (fun r q => hPb i (sk i r)) (fun j _ => hVb i j)
      (powM_inj (f := fun r => f (sk i r)) (fun r => hfb _) (fun r q hr hq e => sk_inj (hinj (sk i r) (sk i q) (sk_lt (by omega)) (sk_lt (by omega)) (by rw [← hf]; exact e))))
      (fun r hr => by
        have := hV i (sk i r) hi (sk_lt (by omega)) (sk_ne i r)
        rw [← hf] at this
        exact this))
  have GR := Lib.hid (fun W A0 A1 c0 c1 (h0 : Kd.C kRow W A0 a (mat a a (powM f))) (h1 : Kd.C kRow W A1 a (mat a a V)) (l0 : a ≤ c0) (l1 : a ≤ c1) => grid_any a a c0 c1 A0 A1 (powM f) V S W h0 h1 l0 l1 (by omega) (by omega) (by omega) (by omega) (powM_byt hfb) hVb hSb
    (powM_inj hfb (fun r q hr hq e => hinj r q (by omega) (by omega) (by rw [← hf]; exact e))) (fun i hi l hl => by
      have := hS i l hi hl
      rw [← hf] at this
      exact this))
  have HB0 := Lib.hid (Below.refl w.heap.size w)
  have a1 : 1 ≤ a := by omega
  have a7 : a ≤ 7 := by omega
  have HKA := Lib.hid (show k = a + 1 by omega)
  obtain ⟨b, Ac, cc, rfl, _⟩ := hc
  obtain ⟨adA, rfl, _⟩ := HPX.out w (Below.refl _ _) 0 (by omega)
  clear hp hs hinj hP hPb hVb hSb hV hS hf hfb ha n2
  go_enter Try.func74, Try.ntmps74
  go_upto_region 3 with (go_at_call 23; (with_reducible refine (PP.out _ HB0.out).mono ?_); rintro e u ⟨rfl, hu⟩; have hu' := hu.symm; subst hu'; clear hu)
  go_loopw [7, 8, 9, 10, 11, 16] (fun uv _ _ _ _ iv wr => ∃ (i : Nat) (u : Value), uv = u ∧ i ≤ a ∧ iv = .int .i64 i ∧ Hid (RowsR wr w.heap.size u (mat i a V)) ∧ Hid (Below w.heap.size w wr)) (fun _ _ _ _ _ iv _ => a - (intOf iv).toNat)
  case atStart => exact ⟨0, _, rfl, by omega, rfl, Lib.hid (Kd.R_nil _ _ _ _ _), HB0⟩
  case round =>
    clear HB0
    obtain ⟨i, u, rfl, hi, rfl, HO, HB⟩ := hrel
    by_cases hlt : i < a
    · have g1 : (i : Int) < (a : Int) := by omega
      have g2 : (0 : Int) ≤ (i : Int) := by omega
      obtain ⟨x1, hx1⟩ : ∃ x1, x1 = wr := ⟨_, rfl⟩
      rw [← hx1] at HO HB
      go_upto_region 8 with (fail)
      go_loopw [9, 10, 11, 21] (fun av bv _ jv wr => ∃ (j : Nat) (a9 b9 : Value), av = a9 ∧ bv = b9 ∧ j ≤ k ∧ jv = .int .i64 j ∧ Hid (Kd.R kRow 22 wr x1.heap.size (But b9) a9 (mat (cnt i j) a (fun r => powM f (sk i r)))) ∧ Hid (Kd.R kRow 22 wr x1.heap.size (But a9) b9 (mat (cnt i j) 1 (fun r _ => P i (sk i r)))) ∧ Hid (Below x1.heap.size x1 wr)) (fun _ _ _ jv _ => k - (intOf jv).toNat)
      case atStart => exact ⟨0, _, _, rfl, rfl, by omega, rfl, Lib.hid (Kd.R_nil _ _ _ _ _), Lib.hid (Kd.R_nil _ _ _ _ _), Lib.hid (by rw [hx1]; exact Below.refl _ _)⟩
      case round =>
        clear hx1
        obtain ⟨j, a9, b9, rfl, rfl, hj, rfl, HU, HD, HQ⟩ := hrel
        by_cases hji : j < k
        · have hBW := HB.out.trans (HQ.out.mono HB.out.size)
          have HBW := Lib.hid hBW
          have g3 : (j : Int) < (k : Int) := by omega
          have g4 : (0 : Int) ≤ (j : Int) := by omega
          have HHJ := Lib.hid (show cnt i j ≤ j by unfold cnt; split <;> omega)
          by_cases hij : j = i
          · have g5 : ((j : Int) != (i : Int)) = false := by simp [hij]
            have HIJ := Lib.hid hij
            clear hij hBW
            go_wp2
            go_roundw
            case rel => exact ⟨j + 1, _, _, rfl, rfl, by omega, by go_num, Lib.hid (by rw [show cnt i (j + 1) = cnt i j by rw [HIJ.out, cnt_eq]]; exact HU.out), Lib.hid (by rw [show cnt i (j + 1) = cnt i j by rw [HIJ.out, cnt_eq]]; exact HD.out), HQ⟩
            case measure => simp [intOf]; omega
          · have g5 : ((j : Int) != (i : Int)) = true := by simp; omega
            have HCN := Lib.hid (cnt_ne hij)
            clear hij
            obtain ⟨ad, e, kc⟩ := HPX.out wr hBW j hji
            injection e with e
            subst e
            obtain ⟨sj, hsj⟩ : ∃ sj, sj = s j := ⟨_, rfl⟩
            have SHj := Lib.hid (SH.out wr hBW j hji)
            rw [← hsj] at SHj kc
            have hik : i < k := by have := HKA.out; omega
            obtain ⟨a3, A3, c3, rfl, kp1, _, hc3⟩ := mrow (HPM.out w (Below.refl _ _)) i hik
            obtain ⟨p3, rfl, kp2⟩ := Sol.at_row hc3 j hji
            rw [line_get _ _ _ hji] at kp2
            have KP := Lib.hid (fun W (hB : Below w.heap.size w W) => And.intro (pw_cell_below hB kp1) (pw_cell_below hB kp2))
            have g6 : (i : Int) < (k : Int) := by omega
            obtain ⟨z, hz⟩ : ∃ z, z = P i j := ⟨_, rfl⟩
            rw [← hz] at KP
            have HZ := Lib.hid hz
            clear hz hsj kp1 kp2 hc3 hBW
            go_wp2_with (first
              | (go_at_call 71; (with_reducible refine SHj.out.mono ?_); rintro e w3 ⟨A8, c8, rfl, hr8, hb⟩; have HR8 := Lib.hid hr8; have HB3 := Lib.hid hb; clear hr8 hb)
              | (at_builtin; refine rows_appendG (w0 := x1) (W := w3) (wr := wr) rfl x1.heap.size rfl _ _ rfl u9 _ u10 _ _ _ rfl rfl HU.out HD.out (HQ.out.trans (HB3.out.mono HQ.out.size)) HQ.out.size HB3.out HR8.out (by rw [mat_len]; have := HHJ.out; omega) ?_; intro v5 w5 h5 h6 h7; have H5 := Lib.hid h5; have H6 := Lib.hid h6; have HB5 := Lib.hid h7; obtain ⟨kp1, kp2⟩ := KP.out w5 (HB.out.trans (h7.mono HB.out.size)); clear h5 h6 h7)
              | (at_builtin; refine rows_appendG (w0 := x1) (W := w5.alloc (.cells #[.int .u8 z] 5)) (wr := w5) rfl x1.heap.size rfl _ _ rfl u10 _ v5 _ [z] _ rfl (by first | rfl | (rw [show (w5.alloc (.cells #[.int .u8 z] 5)).heap.size = w5.heap.size + 1 by simp]; rfl)) H6.out H5.out (HB5.out.alloc HB5.out.size _) HB5.out.size ((Below.refl _ _).alloc (Nat.le_refl _) _) (lit1W w5.heap.size (Nat.le_refl _) z) (by rw [mat_len]; have := HHJ.out; omega) ?_; intro v7 w7 h5 h6 h7; have H7 := Lib.hid h5; have H8 := Lib.hid h6; have HB7 := Lib.hid h7; clear h5 h6 h7))
            go_roundw
            case rel =>
              refine ⟨j + 1, _, _, rfl, rfl, by omega, by go_num, Lib.hid ?_, Lib.hid ?_, HB7⟩
              · rw [HCN.out.1, mat_succ, HCN.out.2]; exact H8.out
              · rw [HCN.out.1, mat_succ, HCN.out.2, show line 1 (fun _ => P i j) = [z] by rw [HZ.out]; rfl]; exact H7.out
            case measure => simp [intOf]; omega
        · obtain rfl : k = j := by omega
          have hk := HKA.out
          have hcn : cnt i k = a := by rw [cnt_all (by omega)]; omega
          have HO1 := Lib.hid (Kd.R_below HO.out HQ.out)
          have HBW := Lib.hid (HB.out.trans (HQ.out.mono HB.out.size))
          have SOC := Lib.hid (show Calls Try.prog 80 #[u9, u10] wr fun e w' => ∃ A c, e = .returned (.slice A a c) ∧ (Kd.int .u8).R 5 w' wr.heap.size (fun _ => True) (.slice A a c) (line a (V i)) ∧ Below wr.heap.size wr w' by
            have h5 := HU.out
            have h6 := HD.out
            rw [hcn] at h5 h6
            obtain ⟨A5, c5, rfl⟩ := Kd.R_slice h5
            obtain ⟨A6, c6, rfl⟩ := Kd.R_slice h6
            rw [mat_len] at h5 h6 ⊢
            rw [mat_len]
            have q5 := Kd.R_reads' h5
            have q6 := Kd.R_reads' h6
            rw [mat_len] at q5 q6
            exact SO.out wr i A5 A6 c5 c6 hlt q5.2.2 q6.2.2 q5.2.1 q6.2.1)
          clear hk hcn HU HD SO
          go_wp2_with (first
            | (go_at_call 80; (with_reducible refine SOC.out.mono ?_); rintro e w3 ⟨A8, c8, rfl, hr8, hb⟩; have HR8 := Lib.hid hr8; have HB3 := Lib.hid hb; clear hr8 hb)
            | (at_builtin; refine rows_append2 (w0 := w) rfl w.heap.size rfl _ _ rfl u7 _ (mat i a V) _ rfl rfl HO1.out (HBW.out.trans (HB3.out.mono HBW.out.size)) HBW.out.size HB3.out HR8.out (by rw [mat_len]; omega) ?_; intro v5 w5 h5 hb5; have H5 := Lib.hid h5; have HB5 := Lib.hid hb5; clear h5 hb5))
          go_roundw
          case rel => exact ⟨i + 1, _, rfl, by omega, by go_num, Lib.hid (by rw [mat_succ]; exact H5.out), HB5⟩
          case measure => simp [intOf]; omega
    · obtain rfl : a = i := by omega
      obtain ⟨x2, hx2⟩ : ∃ x2, x2 = wr := ⟨_, rfl⟩
      rw [← hx2] at HO HB
      have HB9 := Lib.hid (show Below w.heap.size w wr by rw [← hx2]; exact HB.out)
      go_upto_region 18 with (go_at_call 23; (with_reducible refine (PP.out _ HB9.out).mono ?_); rintro e u ⟨rfl, hu⟩; have hu' := hu.symm; subst hu'; clear hu)
      clear HB9
      go_loopw [12, 13, 58] (fun uv _ iv wr => ∃ (i : Nat) (u : Value), uv = u ∧ i ≤ a ∧ iv = .int .i64 i ∧ Hid (RowsR wr x2.heap.size u (mat i a (powM f))) ∧ Hid (Below x2.heap.size x2 wr)) (fun _ _ iv _ => a - (intOf iv).toNat)
      case atStart => exact ⟨0, _, rfl, by omega, rfl, Lib.hid (Kd.R_nil _ _ _ _ _), Lib.hid (by rw [hx2]; exact Below.refl _ _)⟩
      case round =>
        clear hx2
        obtain ⟨i, u, rfl, hi, rfl, HU, HQ⟩ := hrel
        have hBW := HB.out.trans (HQ.out.mono HB.out.size)
        by_cases hlt : i < a
        · have hik : i < k := by have := HKA.out; omega
          have g1 : (i : Int) < (a : Int) := by omega
          have g2 : (0 : Int) ≤ (i : Int) := by omega
          have g3 : (i : Int) < (k : Int) := by omega
          obtain ⟨ad, e, kc⟩ := HPX.out wr hBW i hik
          injection e with e
          subst e
          obtain ⟨sj, hsj⟩ : ∃ sj, sj = s i := ⟨_, rfl⟩
          have SHj := Lib.hid (SH.out wr hBW i hik)
          rw [← hsj] at SHj kc
          clear hsj hBW
          go_wp2_with (first
            | (go_at_call 71; (with_reducible refine SHj.out.mono ?_); rintro e w3 ⟨A8, c8, rfl, hr8, hb⟩; have HR8 := Lib.hid hr8; have HB3 := Lib.hid hb; clear hr8 hb)
            | (at_builtin; refine rows_append2 (w0 := x2) rfl x2.heap.size rfl _ _ rfl u12 _ (mat i a (powM f)) _ rfl rfl HU.out (HQ.out.trans (HB3.out.mono HQ.out.size)) HQ.out.size HB3.out HR8.out (by rw [mat_len]; omega) ?_; intro v5 w5 h5 hb5; have H5 := Lib.hid h5; have HB5 := Lib.hid hb5; clear h5 hb5))
          go_roundw
          case rel => exact ⟨i + 1, _, rfl, by omega, by go_num, Lib.hid (by rw [mat_succ]; exact H5.out), HB5⟩
          case measure => simp [intOf]; omega
        · obtain rfl : a = i := by omega
          have HBW := Lib.hid hBW
          have GC := Lib.hid (show Calls Try.prog 81 #[u12, u7] wr fun e w' => ∃ A c, e = .returned (.slice A a c) ∧ a ≤ c ∧ RowsR w' wr.heap.size (.slice A a c) (mat a a S) ∧ Below wr.heap.size wr w' by
            have h5 := HU.out
            have h6 := Kd.R_below HO.out HQ.out
            obtain ⟨A5, c5, rfl⟩ := Kd.R_slice h5
            obtain ⟨A6, c6, rfl⟩ := Kd.R_slice h6
            rw [mat_len] at h5 h6 ⊢
            rw [mat_len]
            have q5 := Kd.R_reads' h5
            have q6 := Kd.R_reads' h6
            rw [mat_len] at q5 q6
            exact GR.out wr A5 A6 c5 c6 q5.2.2 q6.2.2 q5.2.1 q6.2.1)
          clear hBW HU HO GR
          go_wp2_with (go_at_call 81; (with_reducible refine GC.out.mono ?_); rintro e w3 ⟨A8, c8, rfl, hl8, hr8, hb⟩; have HR8 := Lib.hid hr8; have HB3 := Lib.hid (HBW.out.trans (hb.mono HBW.out.size)); clear hl8 hr8 hb)
          go_ret
          exact ⟨A8, c8, rfl, Kd.R_lower HR8.out HBW.out.size, HB3.out⟩
def Put (a fr sz pt i kk : Nat) (F T F' : Nat → Int) : Prop := (∀ pos, F pos = T pos → F' pos = T pos) ∧ ∀ i' k', i' ≤ k' → k' < a → (i' < i ∨ (i' = i ∧ k' < kk)) → F' (placeN a (fr + i') k' * sz + pt) = T (placeN a (fr + i') k' * sz + pt)
theorem Put.start (a fr sz pt : Nat) (F T : Nat → Int) : Put a fr sz pt 0 0 F T F := ⟨fun _ h => h, fun i' k' _ _ h => by omega⟩
theorem Put.into {a fr sz pt i : Nat} {F T F' : Nat → Int} (h : Put a fr sz pt i 0 F T F') : Put a fr sz pt i i F T F' := ⟨h.1, fun i' k' h1 h2 h3 => h.2 i' k' h1 h2 (by omega)⟩
theorem Put.next {a fr sz pt i : Nat} {F T F' : Nat → Int} (h : Put a fr sz pt i a F T F') : Put a fr sz pt (i + 1) 0 F T F' := ⟨h.1, fun i' k' h1 h2 h3 => h.2 i' k' h1 h2 (by omega)⟩
theorem Put.step {a fr sz pt i kk p : Nat} {F T F' : Nat → Int} (h : Put a fr sz pt i kk F T F') (hp : p = placeN a (fr + i) kk * sz + pt) : Put a fr sz pt i (kk + 1) F T (fun pos => if pos = p then T p else F' pos) := by
  refine ⟨fun pos e => ?_, fun i' k' h1 h2 h3 => ?_⟩
  · by_cases hq : pos = p
    · simp only [hq, if_pos]
    · simp only [if_neg hq]; exact h.1 pos e
  · by_cases hq : placeN a (fr + i') k' * sz + pt = p
    · simp only [hq, if_pos]
    · simp only [if_neg hq]
      refine h.2 i' k' h1 h2 ?_
      rcases h3 with h3 | ⟨h3, h4⟩
      · exact .inl h3
      · refine .inr ⟨h3, ?_⟩
        rcases Nat.lt_or_ge k' kk with h5 | h5
        · exact h5
        · exfalso
          have : k' = kk := by omega
          exact hq (by rw [hp, h3, this])
set_option maxRecDepth 100000 in
set_option maxHeartbeats 8000000 in
theorem put_any (v : Value) (n k a fr pt sz L g cap c B2 : Nat) (A : Option Addr) (M : Mtx) (F T : Nat → Int) (w0 w : World) (hc : IsCode w0 v n k) (k1 : 2 ≤ k) (k2 : k ≤ 8) (ha : a = k - 1) (hfr : fr = 0 ∨ fr = a) (hsz : sz ≤ 100) (hB : Below w0.heap.size w0 w) (hg : w0.heap.size ≤ g) (hg2 : g < B2)
    (hpt : pt < sz) (hL : ∀ i kk, i ≤ kk → kk < a → placeN a (fr + i) kk * sz + pt < L) (hL2 : L ≤ 10000) (hM : ∀ i kk, i ≤ kk → kk < a → M i kk = T (placeN a (fr + i) kk * sz + pt))
    (ho : (Kd.int .u8).R 5 w w0.heap.size (fun _ => True) (.slice (some ⟨g, 0, none⟩) L cap) (line L F)) (hh : RowsR w B2 (.slice A a c) (mat a a M)) :
    Calls Try.prog 60 #[v, .slice (some ⟨g, 0, none⟩) L cap, .slice A a c, .int .i64 fr, .int .i64 pt, .int .i64 sz] w fun e w' => e = .returned (.tuple #[]) ∧ ∃ F', Put a fr sz pt a 0 F T F' ∧ (Kd.int .u8).R 5 w' w0.heap.size (fun _ => True) (.slice (some ⟨g, 0, none⟩) L cap) (line L F') ∧ Below w0.heap.size w0 w' := by
  have PL := Lib.hid (fun W r j (hB : Below w0.heap.size w0 W) (hr : r < 2 * a) (hj : j < a) => show Calls Try.prog 62 #[v, .int .i64 r, .int .i64 j] W fun e w' => e = .returned (.int .i64 (placeN a r j)) ∧ w' = W by
    rw [ha] at hr hj ⊢
    exact place_any v n k r j W (hc.below hB) k1 k2 hr hj)
  have HM := Lib.hid hM
  have HL := Lib.hid hL
  have HO0 := Lib.hid ho
  have HH0 := Lib.hid (show Kd.R kRow 22 w B2 (fun q => B2 ≤ q) (.slice A a c) (mat a a M) from Kd.R_mono (Kd.R_bound hh) (fun q hq => hq.2.1))
  have HB0 := Lib.hid hB
  have HG := Lib.hid hg
  have HG2 := Lib.hid hg2
  have a7 : a ≤ 7 := by omega
  have HFR := Lib.hid (show fr + a ≤ 2 * a by rcases hfr with h | h <;> omega)
  clear hM hL ho hh hB hc ha hfr hg hg2 k1 k2
  go_enter Try.func60, Try.ntmps60
  go_upto_region 1 with (fail)
  go_loopw [12, 13, 16] (fun _ _ iv wr => ∃ (i : Nat) (F' : Nat → Int), i ≤ a ∧ iv = .int .i64 i ∧ Hid (Put a fr sz pt i 0 F T F') ∧ Hid ((Kd.int .u8).R 5 wr w0.heap.size (fun _ => True) (.slice (some ⟨g, 0, none⟩) L cap) (line L F')) ∧ Hid (Kd.R kRow 22 wr B2 (fun q => B2 ≤ q) (.slice A a c) (mat a a M)) ∧ Hid (Below w0.heap.size w0 wr)) (fun _ _ iv _ => a - (intOf iv).toNat)
  case atStart => exact ⟨0, F, by omega, rfl, Lib.hid (Put.start _ _ _ _ _ _), HO0, HH0, HB0⟩
  case round =>
    clear HO0 HH0 HB0
    obtain ⟨i, F', hi, rfl, HP, HO, HH, HB⟩ := hrel
    by_cases hlt : i < a
    · have g1 : (i : Int) < (a : Int) := by omega
      have g2 : (0 : Int) ≤ (i : Int) := by omega
      go_upto_region 4 with (fail)
      go_loopw [13] (fun jv wr => ∃ (j : Nat) (F' : Nat → Int), i ≤ j ∧ j ≤ a ∧ jv = .int .i64 j ∧ Hid (Put a fr sz pt i j F T F') ∧ Hid ((Kd.int .u8).R 5 wr w0.heap.size (fun _ => True) (.slice (some ⟨g, 0, none⟩) L cap) (line L F')) ∧ Hid (Kd.R kRow 22 wr B2 (fun q => B2 ≤ q) (.slice A a c) (mat a a M)) ∧ Hid (Below w0.heap.size w0 wr)) (fun jv _ => a - (intOf jv).toNat)
      case atStart => exact ⟨i, F', by omega, by omega, rfl, Lib.hid HP.out.into, HO, HH, HB⟩
      case round =>
        clear HP HO HH HB F'
        obtain ⟨j, F', hij, hj, rfl, HP, HO, HH, HB⟩ := hrel
        by_cases hja : j < a
        · have g3 : (j : Int) < (a : Int) := by omega
          have g4 : (0 : Int) ≤ (j : Int) := by omega
          obtain ⟨u, hu⟩ : ∃ u, u = placeN a (fr + i) j := ⟨_, rfl⟩
          have PLC := Lib.hid (PL.out (wr.drewN 1) (fr + i) j (pw_below_drewN HB.out 1) (by have := HFR.out; omega) hja)
          have hpL := HL.out i j hij hja
          have hMT := HM.out i j hij hja
          rw [← hu] at PLC hpL hMT
          obtain ⟨ms, hms⟩ : ∃ ms, ms = u * sz := ⟨_, rfl⟩
          obtain ⟨p, hp⟩ : ∃ p, p = ms + pt := ⟨_, rfl⟩
          rw [← hms, ← hp] at hpL hMT
          have HPS := Lib.hid (HP.out.step (p := p) (kk := j) (by rw [hp, hms, hu]))
          obtain ⟨r, hr⟩ : ∃ r, r = fr + i := ⟨_, rfl⟩
          have hr14 : r ≤ 14 := by have := HFR.out; omega
          have hu2 : u ≤ 10000 := by
            have : u * 1 ≤ u * sz := Nat.mul_le_mul_left u (by omega)
            omega
          have v1 : IntKind.i64.wrap ((fr : Int) + (i : Int)) = (r : Int) := by rw [IntWalk.i64_in _ (by omega)]; omega
          have v2 : (fr : Int) + (i : Int) = (r : Int) := by omega
          have v3 : IntKind.i64.wrap (r : Int) = (r : Int) := IntWalk.i64_in _ (by omega)
          have v4 : IntKind.i64.wrap ((u : Int) * (sz : Int)) = (ms : Int) := by rw [hms, ← Int.natCast_mul]; exact IntWalk.i64_in _ (by omega)
          have v5 : IntKind.i64.wrap ((ms : Int) + (pt : Int)) = (p : Int) := by rw [IntWalk.i64_in _ (by omega)]; omega
          have v6 : (ms : Int) + (pt : Int) = (p : Int) := by omega
          have v7 : IntKind.i64.wrap (p : Int) = (p : Int) := IntWalk.i64_in _ (by omega)
          have t1 : (0 : Int) ≤ (p : Int) := by omega
          have t2 : (p : Int) < (L : Int) := by omega
          rw [← hr] at PLC
          have hC := (Kd.R_reads' HH.out).2.2
          rw [mat_len] at hC
          obtain ⟨a3, A3, c3, rfl, kp1, _, hc3⟩ := mrow hC i hlt
          obtain ⟨p3, rfl, kp2⟩ := Sol.at_row hc3 j hja
          rw [line_get _ _ _ hja, hMT] at kp2
          obtain ⟨x1', x2'⟩ := cell_of HO.out p hpL
          obtain ⟨y, hy⟩ : ∃ y, y = T p := ⟨_, rfl⟩
          have hpn := fun j => put_of (Kd.R_drewN HO.out j) p y
          simp only [line_set L _ _ hpL] at hpn
          rw [← hy] at HPS kp2
          have HPN := Lib.hid hpn
          have HBn := Lib.hid (fun j => (pw_below_drewN HB.out j).setCell (p := ⟨g, p, none⟩) HG.out (.int .u8 y))
          have HHn := Lib.hid (fun j => Kd.R_far (Kd.R_drewN HH.out j) (p := ⟨g, p, none⟩) (fun q hq e => by have := HG2.out; have e' : q = g := e; omega) (.int .u8 y))
          clear hC hc3 hpL hMT hms hp hu hr hy hpn hr14 hu2
          go_wp2
          refine wp_region_still_tail 19 (by kernel_rfl) (by kernel_rfl) ?_
          change wpStill _ _ (wr.drewN 1) (fun a' => wpList _ _ _ _ a' (wr.drewN 1)) _ _
          simp only [List.take_succ_cons, List.take_zero, List.drop_succ_cons, List.drop_zero]
          iterate 6 still_step
          still_call PLC.out
          iterate 12 still_step
          refine wpStill_nil ?_
          go_wp2
          go_roundw
          case rel => exact ⟨j + 1, _, by omega, by omega, by go_num, HPS, Lib.hid (HPN.out 1), Lib.hid (HHn.out 1), Lib.hid (HBn.out 1)⟩
          case measure => simp [intOf]; omega
        · obtain rfl : a = j := by omega
          go_wp2
          go_roundw
          case rel => exact ⟨i + 1, F', by omega, by go_num, Lib.hid HP.out.next, HO, HH, HB⟩
          case measure => simp [intOf]; omega
    · obtain rfl : a = i := by omega
      go_wp2
      first | go_end0 | ((try simp only [Exit.inBlock, Exit.then]); refine bodyPost_ret (results_none rfl _ _ _) rfl ?_)
      exact ⟨rfl, F', HP.out, HO.out, HB.out⟩
theorem place_lt (a r c : Nat) (h1 : 1 ≤ a) (h7 : a ≤ 7) (hr : r < 2 * a) (hc : c < a) : placeN a r c < (a + 1) * a := by
  have h : ∀ a, a < 8 → ∀ r, r < 2 * a → ∀ c, c < a → placeN a r c < (a + 1) * a := by decide +kernel
  exact h a (by omega) r hr c hc
theorem place_sym (a i j : Nat) (h7 : a ≤ 7) (hi : i < a) (hj : j < a) : placeN a i j = placeN a j i ∧ placeN a (a + i) j = placeN a (a + j) i := by
  have h : ∀ a, a < 8 → ∀ i, i < a → ∀ j, j < a → placeN a i j = placeN a j i ∧ placeN a (a + i) j = placeN a (a + j) i := by decide +kernel
  exact h a (by omega) i hi j hj
theorem place_all (a u : Nat) (h7 : a ≤ 7) (hu : u < (a + 1) * a) : ∃ i, i < a ∧ ∃ j, j < a ∧ i ≤ j ∧ (placeN a i j = u ∨ placeN a (a + i) j = u) := by
  have h : ∀ a, a < 8 → ∀ u, u < (a + 1) * a → ∃ i, i < a ∧ ∃ j, j < a ∧ i ≤ j ∧ (placeN a i j = u ∨ placeN a (a + i) j = u) := by decide +kernel
  exact h a (by omega) u hu
theorem side_sym {a : Nat} {f : Nat → Nat} {D : Nat → Nat → G} (hD : ∀ r u, r < a → u < a → D r u = D u r) (i j : Nat) :
    dotF a (el (powM f) j) (fun u => dotF a (el (powM f) i) (fun r => D r u)) = dotF a (el (powM f) i) (fun u => dotF a (el (powM f) j) (fun r => D r u)) := by
  unfold dotF
  rw [sum_congr (g := fun u => sum a (fun r => el (powM f) j u * (el (powM f) i r * D r u))) (fun u hu => by rw [← sum_left]), sum_comm]
  refine sum_congr (fun r hr => ?_)
  rw [← sum_left]
  refine sum_congr (fun u hu => ?_)
  rw [hD r u hr hu, ← Fd.mul_assoc, ← Fd.mul_assoc, Fd.mul_comm (el (powM f) j u)]
def oneS (a : Nat) (f : Nat → Nat) (S : Mtx) : Mtx := fun i u => (dotF a (el (powM f) i) (fun r => G.of (S r u))).int
def twoS (a : Nat) (f : Nat → Nat) (S : Mtx) : Mtx := fun i j => (dotF a (el (powM f) j) (fun u => G.of (oneS a f S i u))).int
theorem oneS_of (a : Nat) (f : Nat → Nat) (S : Mtx) (i u : Nat) : dotF a (el (powM f) i) (fun r => G.of (S r u)) = G.of (oneS a f S i u) := (G.of_int _).symm
theorem twoS_of (a : Nat) (f : Nat → Nat) (S : Mtx) (i j : Nat) : dotF a (el (powM f) j) (fun u => G.of (oneS a f S i u)) = G.of (twoS a f S i j) := (G.of_int _).symm
theorem twoS_sym {a : Nat} {f : Nat → Nat} {S : Mtx} (hS : ∀ r u, r < a → u < a → S r u = S u r) (i j : Nat) : twoS a f S i j = twoS a f S j i := by
  have h := side_sym (f := f) (D := fun r u => G.of (S r u)) (fun r u hr hu => congrArg G.of (hS r u hr hu)) i j
  unfold twoS
  congr 1
  have e : ∀ i, (fun u => G.of (oneS a f S i u)) = (fun u => dotF a (el (powM f) i) (fun r => G.of (S r u))) := fun i => funext (fun u => (oneS_of a f S i u).symm)
  rw [e i, e j]
  exact h
theorem dot_two {a : Nat} {f : Nat → Nat} {S1 S2 X : Mtx} {lam : Nat → G} (i : Nat) (hX : ∀ c, c < a → G.of (X i c) = dotF a (el (powM f) i) (fun r => G.of (S1 r c)) + lam i * dotF a (el (powM f) i) (fun r => G.of (S2 r c))) (j : Nat) :
    dotF a (el (powM f) j) (fun c => G.of (X i c)) = G.of (twoS a f S1 i j) + lam i * G.of (twoS a f S2 i j) := by
  rw [← twoS_of, ← twoS_of]
  unfold dotF
  rw [← sum_left, ← sum_add]
  refine sum_congr (fun c hc => ?_)
  show el (powM f) j c * G.of (X i c) = el (powM f) j c * G.of (oneS a f S1 i c) + lam i * (el (powM f) j c * G.of (oneS a f S2 i c))
  rw [hX c hc, oneS_of, oneS_of, Fd.mul_add]
  congr 1
  rw [← Fd.mul_assoc, ← Fd.mul_assoc, Fd.mul_comm (lam i)]
end Go.Proofs.Ytcnfafappcbpnaa.Hl
